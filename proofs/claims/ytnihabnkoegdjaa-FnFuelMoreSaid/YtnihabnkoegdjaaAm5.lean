/- The abstract machine. -/
import Derived.Test.YtnihabnkoegdjaaAm4
import Derived.Laws.Externs
section
set_option linter.unusedVariables false
set_option linter.unusedSimpArgs false
namespace Go.Am
open Classical
theorem Heap.wrap {σ0 σ : St} {ents E : List Ent} (h : Heap σ0 σ (ents ++ E)) : ∃ F, Heap σ0 σ (ents ++ [.keep F σ]) ∧ ∀ σ' ents', Heap σ0 σ' (ents' ++ [.keep F σ]) → Heap σ0 σ' (ents' ++ E) := by
 obtain ⟨F, h1, h2, h3⟩ := h.ex
 obtain ⟨F1, F2, rfl, h4, h5⟩ := h1.split
 refine ⟨F2, ⟨h.grow, F1 ++ F2, h4.join ⟨F2, [], by simp, ⟨rfl, fun b hb => ⟨rfl, h5.some b hb⟩⟩, rfl⟩, h2, h3⟩, fun σ' ents' k => ?_⟩
 obtain ⟨G, k1, k2, k3⟩ := k.ex
 obtain ⟨G1, G2, rfl, k4, k5⟩ := k1.split
 obtain ⟨S, F', rfl, ⟨rfl, k6⟩, k7⟩ := k5
 cases k7
 simp only [List.append_nil] at k2 k3
 exact ⟨k.grow, G1 ++ S, k4.join (h5.same fun b hb => (k6 b hb).1), k2, k3⟩
section
variable {P : Program} {md : Nat → Md} {X : Ext} {f : Nat}
variable {ops : Array Oper} {m : Mo} {l : List Oper} {K : Fr → Prop} {s : Nat → T} {σ σ0 : St} {L : List (Nat × T)} {es ents : List Ent}
variable {d : Option Nat} {ty : TypeId} {ps : String} {af : Array Edge} {g : Option (Nat × Bool)}
def RawS (P : Program) (md : Nat → Md) (X : Ext) (f : Nat) (args : List T) (n : Nat) (tree : List T → T) (ents : List Ent) (ents' : List T → List Ent) : Prop :=
 ∀ σ0 σ E, Heap σ0 σ (ents ++ E) → ∃ hs σ', hs.length = n ∧ run P md X f args σ = some (tree hs, σ') ∧ Heap σ0 σ' (ents' hs ++ E)
def endM (P : Program) (rs : List ResultVar) (σ0 : St) (n : Nat) (tree : List T → T) (ents' : List T → List Ent) : aN_ → Fr → Prop
 | .exit _, _ => False
 | .normal, fr => ∃ l hs, resL P fr rs = some l ∧ tupOf l = tree hs ∧ hs.length = n ∧ Heap σ0 fr.σ (ents' hs)
 | .ret, fr => ∃ l hs, resL P fr rs = some l ∧ tupOf l = tree hs ∧ hs.length = n ∧ Heap σ0 fr.σ (ents' hs)
theorem aR_ {rs : List ResultVar} {l : List T} {n : Nat} {tree : List T → T} {ents' : List T → List Ent} (hs : List T) (hl : resL P ⟨s, σ⟩ rs = some l) (ht : tupOf l = tree hs) (hn : hs.length = n) (hH : Heap σ0 σ (ents' hs)) : endM P rs σ0 n tree ents' .ret ⟨s, σ⟩ := ⟨l, hs, hl, ht, hn, hH⟩
theorem bN_ {rs : List ResultVar} {n : Nat} {tree : List T → T} {ents' : List T → List Ent} {fr : Fr} (h : endM P rs σ0 n tree ents' .ret fr) : endM P rs σ0 n tree ents' .normal fr := h
theorem b9_ {c : Code} {n0 n : Nat} {rs : List ResultVar} {args : List T} {tree : List T → T} {ents' : List T → List Ent} (hv : md f = .raw) (hX : X f = none) (hok : Ok P f c n0 rs) (hlen : Nat.ble args.length n0 = true)
  (h : ∀ σ0 σ F σk s, Sub (nums 0 args) s → Heap σ0 σ (ents ++ [.keep F σk]) → codeQ P (run P md X) c (endM P rs σ0 n tree (fun hs => ents' hs ++ [.keep F σk])) ⟨s, σ⟩) : RawS P md X f args n tree ents ents' := fun σ0 σ E hH => by
 obtain ⟨F, h1, h2⟩ := hH.wrap
 obtain ⟨fn, k1, k2, k3, k4, k5, k6⟩ := hok
 obtain ⟨x, fr, m1, m2⟩ := codeQ_sound (h σ0 σ F σ _ (e7_ args) h1)
 have hx : (x = .normal ∨ x = .ret) ∧ ∃ l hs, resL P fr rs = some l ∧ tupOf l = tree hs ∧ hs.length = n ∧ Heap σ0 fr.σ (ents' hs ++ [.keep F σ]) := by
  cases x with
  | normal => exact ⟨.inl rfl, m2⟩
  | ret => exact ⟨.inr rfl, m2⟩
  | exit i => exact m2.elim
 obtain ⟨hx, l, hs, q1, q2, q3, q4⟩ := hx
 refine ⟨hs, fr.σ, q3, ?_, h2 _ _ q4⟩
 rw [lx_ (P := P) (vm := md) (X := X) (σ := σ) hv hX k1 k2 k3 k4 (by rw [k5]; exact Nat.le_of_ble_eq_true hlen) m1 hx (by rw [resA, k6, q1]; rfl), q2]
theorem nt_ {fo : Operand} {as : Array Operand} {tys : Array TypeId} {a b xs : List T} {n : Nat} {tree : List T → T} {ents' : List T → List Ent} (hw : want ops L g = some true) (hS : Sub L s) (hf : gE (get L) fo = some (.fn f a b)) (ha : gEs (get L) as.toList = some xs)
  (hH : Heap σ0 σ (ents ++ es)) (hr : RawS P md X f (a ++ xs ++ b) n tree ents ents')
  (k : ∀ hs σ' s', hs.length = n → Heap σ0 σ' (ents' hs ++ es) → Sub (putL L d (tree hs)) s' → opsX P (run P md X) ops .q l K ⟨s', σ'⟩) : opsX P (run P md X) ops .q (⟨d, .call ⟨.value fo, as, tys⟩, ty, ps, af, g⟩ :: l) K ⟨s, σ⟩ := by
 obtain ⟨hs, σ', h1, h2, h3⟩ := hr σ0 σ es hH
 refine nF_ (f := f) (args := a ++ xs ++ b) (aJ_ hS hw) (by rw [h3_, cw_ hS ha, Option.bind_some, ai_ hS hf]; rfl) h2 ?_
 rw [bT_]
 exact k _ _ _ h1 h3 (a0_ hS d _ σ)
def endI (P : Program) (rs : List ResultVar) (K : T → St → Prop) : aN_ → Fr → Prop
 | .exit _, _ => False
 | .normal, fr => ∃ l, resL P fr rs = some l ∧ K (tupOf l) fr.σ
 | .ret, fr => ∃ l, resL P fr rs = some l ∧ K (tupOf l) fr.σ
theorem so_ {rs : List ResultVar} {l : List T} {K : T → St → Prop} {v : T} (hl : resL P ⟨s, σ⟩ rs = some l) (ht : tupOf l = v) (h : K v σ) : endI P rs K .ret ⟨s, σ⟩ := ⟨l, hl, ht ▸ h⟩
theorem s5_ {fo : Operand} {as : Array Operand} {tys : Array TypeId} {a b xs : List T} {c : Code} {n0 : Nat} {rs : List ResultVar} (args : List T) (hw : want ops L g = some true) (hS : Sub L s) (hf : gE (get L) fo = some (.fn f a b)) (ha : gEs (get L) as.toList = some xs)
  (hab : a ++ xs ++ b = args) (hv : md f = .raw) (hX : X f = none) (hok : Ok P f c n0 rs) (hlen : Nat.ble args.length n0 = true)
  (h : ∀ s1, Sub (nums 0 args) s1 → codeQ P (run P md X) c (endI P rs fun v σ' => ∀ s', Sub (putL L d v) s' → opsX P (run P md X) ops .q l K ⟨s', σ'⟩) ⟨s1, σ⟩) : opsX P (run P md X) ops .q (⟨d, .call ⟨.value fo, as, tys⟩, ty, ps, af, g⟩ :: l) K ⟨s, σ⟩ := by
 subst hab
 obtain ⟨fn, k1, k2, k3, k4, k5, k6⟩ := hok
 obtain ⟨x, fr, m1, m2⟩ := codeQ_sound (h _ (e7_ _))
 have hx : (x = .normal ∨ x = .ret) ∧ ∃ l1, resL P fr rs = some l1 ∧ ∀ s', Sub (putL L d (tupOf l1)) s' → opsX P (run P md X) ops .q l K ⟨s', fr.σ⟩ := by
  cases x with
  | normal => exact ⟨.inl rfl, m2⟩
  | ret => exact ⟨.inr rfl, m2⟩
  | exit i => exact m2.elim
 obtain ⟨hx, l1, q1, q2⟩ := hx
 refine nF_ (f := f) (args := a ++ xs ++ b) (v := tupOf l1) (σ' := fr.σ) (aJ_ hS hw) (by rw [h3_, cw_ hS ha, Option.bind_some, ai_ hS hf]; rfl)
  (lx_ (P := P) (vm := md) (X := X) (σ := σ) hv hX k1 k2 k3 k4 (by rw [k5]; exact Nat.le_of_ble_eq_true hlen) m1 hx (by rw [resA, k6, q1]; rfl)) ?_
 rw [bT_]
 exact q2 _ (a0_ hS d _ σ)
theorem rw_ {HF : (Nat → T) → St → Prop} {fo : Operand} {as : Array Operand} {tys : Array TypeId} {a b xs : List T} {c : Code} {n0 : Nat} {rs : List ResultVar} (args : List T) (hw : want ops L g = some true) (hS : Sub L s) (hf : gE (get L) fo = some (.fn f a b)) (ha : gEs (get L) as.toList = some xs)
  (hab : a ++ xs ++ b = args) (hv : md f = .raw) (hX : X f = none) (hok : Ok P f c n0 rs) (hlen : Nat.ble args.length n0 = true)
  (h : ∀ s1, Sub (nums 0 args) s1 → codeQ P (run P md X) c (endI P rs fun v σ' => ∀ s', Sub (putL L d v) s' → HF s' σ') ⟨s1, σ⟩)
  (k : ∀ s' σ', HF s' σ' → opsX P (run P md X) ops .q l K ⟨s', σ'⟩) : opsX P (run P md X) ops .q (⟨d, .call ⟨.value fo, as, tys⟩, ty, ps, af, g⟩ :: l) K ⟨s, σ⟩ :=
 s5_ args hw hS hf ha hab hv hX hok hlen fun s1 h1 => codeQ_mono (fun x fr hx => by
  cases x with
  | exit i => exact hx
  | normal => obtain ⟨l, e1, e2⟩ := hx; exact ⟨l, e1, fun s' hs => k _ _ (e2 s' hs)⟩
  | ret => obtain ⟨l, e1, e2⟩ := hx; exact ⟨l, e1, fun s' hs => k _ _ (e2 s' hs)⟩) (h s1 h1)
end
def kh_ (s : ByteArray) : Option (Sl (Iv .u8)) := if 1 ≤ s.size ∧ s.size ≤ 1099511627776 then some ⟨false, s.data.toList.map fun b => ⟨b.toNat⟩⟩ else none
theorem kk_ (s : ByteArray) : dB_ s = am_ (s.data.toList.map fun b => (⟨b.toNat⟩ : Iv .u8)) := by
 unfold dB_
 generalize s.data.toList = l
 induction l with
 | nil => rfl
 | cons b l ih => simp only [List.map_cons, am_]; rw [ih]; rfl
section
variable {P : Program} {O : aM_}
variable {ops : Array Oper} {m : Mo} {l : List Oper} {K : Fr → Prop} {s : Nat → T} {σ σ0 : St} {L : List (Nat × T)} {es ents : List Ent}
variable {d : Option Nat} {ty : TypeId} {ps : String} {af : Array Edge} {g : Option (Nat × Bool)}
theorem m6_ {σ : St} {src dst : TypeId} {w : ByteArray} : iM_ P none σ src dst (.str w) = if aH_ P src = 3 then if aH_ P dst = 3 then some (.str w, σ) else (av_ P dst).bind fun e => if aH_ P e = 10 ∧ w.size ≤ 2 ^ 40 ∧ σ.okK none = true then some (.ref (σ.nid none) 0 0 w.size, σ.pushK none (aP_ (dB_ w) 1)) else none else none := rfl
theorem ui_ {x : Operand} {src dst e : TypeId} {w : ByteArray} {r : Sl (Iv .u8)} (hw : want ops L g = some true) (hS : Sub L s) (hH : Heap σ0 σ es) (hx : gE (get L) x = some (.str w)) (hk : (Nat.beq (aH_ P src) 3 && !Nat.beq (aH_ P dst) 3) = true) (he : av_ P dst = some e) (hke : Nat.beq (aH_ P e) 10 = true) (hr : kh_ w = some r)
  (k : ∀ t' σ' s', ar_ t' → Heap σ0 σ' (.own true 1 t' r.t :: es) → Sub (putL L d t') s' → opsX P O ops .q l K ⟨s', σ'⟩) : opsX P O ops .q (⟨d, .convert src dst x, ty, ps, af, g⟩ :: l) K ⟨s, σ⟩ := by
 unfold kh_ at hr
 split at hr
 ·rename_i hb
  injection hr with hr; subst hr
  simp only [Bool.and_eq_true, Bool.not_eq_true'] at hk
  have h1 := Nat.eq_of_beq_eq_true hk.1; have h2 := Nat.ne_of_beq_eq_false hk.2; have h3 := Nat.eq_of_beq_eq_true hke
  refine nm_ (v := .ref σ.next 0 0 w.size) (σ' := σ.pushK none (aP_ (dB_ w) 1)) (aJ_ hS hw) ?_ ?_
  ·rw [kF_, ai_ hS hx, Option.bind_some]
   rw [m6_, if_pos h1, if_neg h2, he, Option.bind_some, if_pos ⟨h3, by omega, rfl⟩]; rfl
  ·rw [bT_]
   refine k _ _ _ ⟨rfl, rfl⟩ ?_ (a0_ hS d _ σ)
   have hl : (w.data.toList.map fun b => (⟨b.toNat⟩ : Iv .u8)).length = w.size := by rw [List.length_map, Array.length_toList]; rfl
   have hrow : Sl.t (⟨false, w.data.toList.map fun b => ⟨b.toNat⟩⟩ : Sl (Iv .u8)) = .row false w.size (am_ (w.data.toList.map fun b => (⟨b.toNat⟩ : Iv .u8))) := by
    show T.row false (List.length _) _ = _; rw [hl]
   rw [hrow, kk_]
   refine Heap.mkRow (ents := []) hH (by decide) (by omega) (by rw [cellsL_len, hl]; rfl) (cellsL_one _) ?_
   generalize w.data.toList = l
   induction l with
   | nil => exact .nil
   | cons b l ih => exact .leaf (fun σ d => by cases d <;> rfl) ih
 ·cases hr
end
theorem m5_ {σ : St} {k : Nat} {t : T} {z : Bool} {n : Nat} {cs : List T} {S : List Nat} (h : hold true σ k t = some (.row z n cs, S)) : isTop t = true := by
 cases t with
 | row zz m us => cases zz <;> cases m <;> cases us <;> first | rfl | (cases k <;> simp [hold] at h)
 | agg us => cases k <;> simp [hold] at h
 | tup us => cases k <;> simp [hold] at h
 | ref b e off n => rfl
 | emp => rfl
 | _ => cases k <;> simp [hold] at h
section
variable {P : Program} {O : aM_}
variable {ops : Array Oper} {m : Mo} {l : List Oper} {K : Fr → Prop} {s : Nat → T} {σ σ0 : St} {L : List (Nat × T)} {es ents : List Ent}
variable {d : Option Nat} {ty : TypeId} {ps : String} {af : Array Edge} {g : Option (Nat × Bool)}
theorem Heap.lens {α β : Type} [Enc α] [Enc β] {w : Nat} {t1 : T} {a : Sl α} {j : Int} {y : α} {b ep off : Nat} {c : List T} {q : Sl β} (hH : Heap σ0 σ (.own true w t1 a.t :: es)) (hr : t1 = .ref b ep 0 a.l.length)
  (hy : elt a j = some y) (hc : Enc.cells y = c) (hv : c[off]? = some q.t) :
  ∃ F t' B S', ar_ t' ∧ Heap σ0 σ (.own true 0 t' q.t :: .keep F σ :: es) ∧
   (∀ (σ1 : St) (es1 : List Ent) (q' : Sl β) (y' : α), Enc.cells y' = c.take off ++ q'.t :: c.drop (off + 1) → Heap σ0 σ1 (.own true 0 t' q'.t :: .keep F σ :: es1) → Heap σ0 σ1 (.own true w t1 (setS a j y').t :: es1)) ∧
   (∀ (σ1 : St) (es1 : List Ent), Heap σ0 σ1 (.own true 0 t' q.t :: .keep F σ :: es1) → Heap σ0 σ1 (.own true w t1 a.t :: es1)) ∧
   (∀ (σ1 : St) (es1 : List Ent) (w2 : Nat) (t2 : T) (q2 : Sl β) (y' : α), Enc.cells y' = c.take off ++ q2.t :: c.drop (off + 1) → Heap σ0 σ1 (.own true w2 t2 q2.t :: .keep F σ :: es1) → ∃ B1, σ1.blk b = some B1 ∧ B1.st = true ∧ ep = B1.ep ∧ j.toNat * Enc.w α + off + 1 ≤ B1.cells.length ∧ Heap σ0 (σ1.set b { B1 with cells := splice B1.cells (j.toNat * Enc.w α + off) [t2], low := B1.ep, ver := B1.ver + 1 }) (.own true w t1 (setS a j y').t :: es1)) ∧
   b ∈ F ∧ σ.blk b = some B ∧ ep = B.ep ∧ B.low ≤ B.ep ∧ B.cells.drop (j.toNat * Enc.w α + off) = t' :: B.cells.drop (j.toNat * Enc.w α + off + 1) ∧ B.cells.all T.one = true ∧ ∃ k, frzL (hold true σ k) B.cells = some (am_ a.l, S') := by
 obtain ⟨q1, q2, q3⟩ := d5_ hy
 obtain ⟨S, ⟨ht, hwd, k', h2⟩, hnd0, _⟩ := hH.head
 have ea : a.t = .row a.z a.l.length (am_ a.l) := rfl
 rw [ea] at h2
 rcases cP_ ht h2 with ⟨rfl, hz, hn0, hcs, rfl⟩ | ⟨rfl, hz, hn0, hcs, rfl⟩ | ⟨hzz, x', B, S', k'', rfl, hB, c1, c3, c5, c6, c7, h3, rfl⟩
 ·cases hr
 ·cases hr
 injection hr with e1 e2 _ _
 subst e1; subst e2
 obtain ⟨pos, hpos⟩ : ∃ pos, pos = j.toNat * Enc.w α + off := ⟨_, rfl⟩
 have hoff : off < c.length := (List.getElem?_eq_some_iff.1 hv).1
 have hcl : c.length = Enc.w α := by rw [← hc, Enc.len]
 have hdrop : (am_ a.l).drop pos = q.t :: (am_ a.l).drop (pos + 1) := by
  have hd := es_ a.l j.toNat y q3
  rw [hc] at hd
  have e : ∀ m, (am_ a.l).drop (j.toNat * Enc.w α + m) = (c ++ am_ (a.l.drop (j.toNat + 1))).drop m := fun m => by rw [← List.drop_drop, hd]
  rw [hpos, e off, Nat.add_assoc, e (off + 1), List.drop_eq_getElem_cons (by simp; omega)]
  congr 1
  rw [List.getElem_append_left hoff]
  exact (List.getElem?_eq_some_iff.1 hv).2
 obtain ⟨G1, G2, rfl, h4, h5⟩ := bL_ pos h3
 rw [hdrop] at h5
 have hlen : B.cells.drop pos ≠ [] := fun h => by rw [h] at h5; simp [frzL] at h5
 obtain ⟨t', cr, hcr⟩ := List.exists_cons_of_ne_nil hlen
 have hcr2 : cr = B.cells.drop (pos + 1) := by rw [← List.drop_drop, hcr]; rfl
 rw [hcr] at h5
 simp only [frzL] at h5
 obtain ⟨⟨v0, G3⟩, h6, h7⟩ := Option.bind_eq_some_iff.1 h5
 obtain ⟨⟨vs, G4⟩, h8, h9⟩ := Option.map_eq_some_iff.1 h7
 injection h9 with h9 h10; injection h9 with h9 h11
 subst h9; subst h10; subst h11
 have htop : isTop t' = true := m5_ h6
 have hperm : ∀ X : List Nat, (X ++ (x' :: (G1 ++ G4))).Perm (x' :: (G1 ++ (X ++ G4))) := fun X =>
  List.perm_middle.trans (List.Perm.cons _ (by rw [← List.append_assoc, ← List.append_assoc]; exact List.perm_append_comm.append_right _))
 have hcells : ∀ (q' : Sl β) (y' : α), Enc.cells y' = c.take off ++ q'.t :: c.drop (off + 1) → am_ (setS a j y').l = (am_ a.l).take pos ++ ([q'.t] ++ (am_ a.l).drop (pos + 1)) := fun q' y' hy' => by
  simp only [setS]
  rw [hc_ a.l j.toNat y y' q3, hy', hpos]
  have hd := es_ a.l j.toNat y q3
  rw [hc] at hd
  have hsplit : am_ a.l = (am_ a.l).take (j.toNat * Enc.w α) ++ (c ++ am_ (a.l.drop (j.toNat + 1))) := by rw [← hd, List.take_append_drop]
  have hl0 : ((am_ a.l).take (j.toNat * Enc.w α)).length = j.toNat * Enc.w α := by
   rw [List.length_take, cellsL_len]
   have : (j.toNat + 1) * Enc.w α ≤ a.l.length * Enc.w α := Nat.mul_le_mul_right _ (by omega)
   rw [Nat.succ_mul] at this; omega
  generalize (am_ a.l).take (j.toNat * Enc.w α) = A at hsplit hl0
  generalize am_ (a.l.drop (j.toNat + 1)) = R at hsplit
  rw [hsplit]
  have := jr_ A c R [q'.t] (j.toNat * Enc.w α) off 1 (Enc.w α) hl0 hcl (by omega)
  simp only [List.append_assoc, List.singleton_append, List.cons_append, List.nil_append, List.drop_drop] at this ⊢
  rw [this]
 have hclose : ∀ (σ1 : St) (es1 : List Ent) (q' : Sl β) (y' : α), Enc.cells y' = c.take off ++ q'.t :: c.drop (off + 1) → Heap σ0 σ1 (.own true 0 t' q'.t :: .keep (x' :: (G1 ++ G4)) σ :: es1) → Heap σ0 σ1 (.own true w (.ref x' B.ep 0 a.l.length) (setS a j y').t :: es1) := by
  intro σ1 es1 q' y' hy' hH1
  refine Heap.step (es1 := [.own true 0 t' q'.t, .keep (x' :: (G1 ++ G4)) σ]) (es2 := [.own true w (.ref x' B.ep 0 a.l.length) (setS a j y').t]) (es := es1) hH1 (Nat.le_refl _) fun F hF hnd hbd => ?_
  obtain ⟨S1, F1, rfl, ⟨_, _, k5, h12⟩, S2, F2, rfl, ⟨rfl, hkeep⟩, hnil⟩ := hF
  cases hnil
  rw [List.append_nil] at hnd
  have hkeep := fun b hb => (hkeep b hb).1
  have cg : ∀ {ts ws : List T} {G : List Nat}, (∀ x ∈ G, x ∈ G1 ++ G4) → frzL (hold true σ k'') ts = some (ws, G) → frzL (hold true σ1 k'') ts = some (ws, G) := fun hG h =>
   aE_ (fun t v S'' _ hq hq2 => cK_ k'' t v S'' (fun x hx => hkeep x (by simp only [List.mem_cons]; exact .inr (hG _ (hq2 _ hx)))) hq) h
  have r1 := cg (fun x hx => by simp [hx]) h4
  have r2 := cg (fun x hx => by simp [hx]) h8
  have r0 : frzL (hold true σ1 k5) [t'] = some ([q'.t], S1) := by simp [frzL, h12]
  have r3 := bR_ (bb_ (Nat.le_max_left k'' k5) r1) (bR_ (bb_ (Nat.le_max_right k'' k5) r0) (bb_ (Nat.le_max_left k'' k5) r2))
  have hB1 : σ1.blk x' = some B := by rw [hkeep x' (by simp), hB]
  refine ⟨x' :: (G1 ++ (S1 ++ G4)), ⟨x' :: (G1 ++ (S1 ++ G4)), [], by simp, ⟨rfl, fun b e o n B' h hB' hw0 => ?_, max k'' k5 + 1, ?_⟩, rfl⟩, (hperm S1).nodup_iff.1 hnd, fun b hb => .inl ?_, fun _ _ _ => rfl⟩
  ·injection h with h; subst h
   rw [hB1] at hB'; injection hB' with hB'; subst hB'
   exact hwd _ _ _ _ _ rfl hB hw0
  ·have hll : (setS a j y').l.length = a.l.length := by simp [setS]
   have e3 : List.take pos B.cells ++ ([t'] ++ cr) = B.cells := by
    rw [List.singleton_append, ← hcr, List.take_append_drop]
   rw [e3] at r3
   have hz : (setS a j y').z = false := hzz
   simp only [hold, hB1, Option.bind_some, Sl.t, hll, hcells q' y' hy', hz]
   rw [if_pos ⟨fun _ => c1 rfl, trivial, c3, trivial, c5, c6, c7, by omega⟩, r3]; rfl
  ·rw [List.append_nil]; exact (hperm S1).mem_iff.2 hb
 have hput : ∀ (σ1 : St) (es1 : List Ent) (w2 : Nat) (t2 : T) (q2 : Sl β) (y' : α), Enc.cells y' = c.take off ++ q2.t :: c.drop (off + 1) → Heap σ0 σ1 (.own true w2 t2 q2.t :: .keep (x' :: (G1 ++ G4)) σ :: es1) → ∃ B1, σ1.blk x' = some B1 ∧ B1.st = true ∧ B.ep = B1.ep ∧ j.toNat * Enc.w α + off + 1 ≤ B1.cells.length ∧ Heap σ0 (σ1.set x' { B1 with cells := splice B1.cells (j.toNat * Enc.w α + off) [t2], low := B1.ep, ver := B1.ver + 1 }) (.own true w (.ref x' B.ep 0 a.l.length) (setS a j y').t :: es1) := by
  intro σ1 es1 w2 t2 q2 y' hy' hH1
  have hB1 : σ1.blk x' = some B := by
   obtain ⟨Sk, ⟨rfl, hkp⟩, _⟩ := (hH1.at 1 rfl).head
   rw [(hkp x' (by simp)).1, hB]
  have hplen : pos + 1 ≤ B.cells.length := by
   have := congrArg List.length hcr
   simp only [List.length_drop, List.length_cons] at this; omega
  refine ⟨B, hB1, c1 rfl, rfl, by rw [← hpos]; exact hplen, ?_⟩
  rw [← hpos]
  refine Heap.step (es1 := [.own true w2 t2 q2.t, .keep (x' :: (G1 ++ G4)) σ]) (es2 := [.own true w (.ref x' B.ep 0 a.l.length) (setS a j y').t]) (es := es1) hH1 (by simp) fun F hF hnd hbd => ?_
  obtain ⟨S1, F1, rfl, ⟨htop2, _, k5, h12⟩, S2, F2, rfl, ⟨rfl, hkeep⟩, hnil⟩ := hF
  cases hnil
  rw [List.append_nil] at hnd
  have hkeep := fun b hb => (hkeep b hb).1
  obtain ⟨n1, n2, n3⟩ := List.nodup_append.1 hnd
  have hx1 : x' ∉ S1 := fun h => n3 x' h x' (by simp) rfl
  have hx2 : x' ∉ G1 ++ G4 := (List.nodup_cons.1 n2).1
  have hs : ∀ b, b ≠ x' → (σ1.set x' { B with cells := splice B.cells pos [t2], low := B.ep, ver := B.ver + 1 }).blk b = σ1.blk b := fun b hb => by rw [ct_, if_neg hb]
  have cg : ∀ {ts ws : List T} {G : List Nat}, (∀ x ∈ G, x ∈ G1 ++ G4) → frzL (hold true σ k'') ts = some (ws, G) → frzL (hold true (σ1.set x' { B with cells := splice B.cells pos [t2], low := B.ep, ver := B.ver + 1 }) k'') ts = some (ws, G) := fun hG h =>
   aE_ (fun t v S'' _ hq hq2 => cK_ k'' t v S'' (fun x hx => by
    have hxG := hG _ (hq2 _ hx)
    rw [hs x fun e => by subst e; exact hx2 hxG]
    exact hkeep x (by simp only [List.mem_cons]; exact .inr hxG)) hq) h
  have r1 := cg (fun x hx => by simp [hx]) h4
  have r2 := cg (fun x hx => by simp [hx]) h8
  have h13 : hold true (σ1.set x' { B with cells := splice B.cells pos [t2], low := B.ep, ver := B.ver + 1 }) k5 t2 = some (q2.t, S1) := cK_ k5 t2 q2.t S1 (fun x hx => hs x fun e => by subst e; exact hx1 hx) h12
  have r0 : frzL (hold true (σ1.set x' { B with cells := splice B.cells pos [t2], low := B.ep, ver := B.ver + 1 }) k5) [t2] = some ([q2.t], S1) := by
   simp only [frzL, h13, Option.bind_some, Option.map_some, List.append_nil]
  have r3 := bR_ (bb_ (Nat.le_max_left k'' k5) r1) (bR_ (bb_ (Nat.le_max_right k'' k5) r0) (bb_ (Nat.le_max_left k'' k5) r2))
  refine ⟨x' :: (G1 ++ (S1 ++ G4)), ⟨x' :: (G1 ++ (S1 ++ G4)), [], by simp, ⟨rfl, fun b e o n B' h hB' hw0 => ?_, max k'' k5 + 1, ?_⟩, rfl⟩, (hperm S1).nodup_iff.1 hnd, fun b hb => .inl ?_, fun b hb hm => hs b fun e => hm (by simp [e])⟩
  ·injection h with h; subst h
   rw [bO_] at hB'; injection hB' with hB'; subst hB'
   exact hwd _ _ _ _ B rfl hB hw0
  ·have hll : (setS a j y').l.length = a.l.length := by simp [setS]
   have e3 : splice B.cells pos [t2] = List.take pos B.cells ++ ([t2] ++ cr) := by
    unfold splice; rw [hcr2, List.append_assoc]; rfl
   have hz : (setS a j y').z = false := hzz
   have hone := (gR_ htop2).2
   have hall : (List.take pos B.cells ++ ([t2] ++ cr)).all T.one = true := by
    rw [List.all_eq_true] at c7
    rw [List.all_eq_true]
    intro x hx
    rcases List.mem_append.1 hx with hx | hx
    ·exact c7 x (List.mem_of_mem_take hx)
    ·rcases List.mem_cons.1 (show x ∈ t2 :: cr from hx) with rfl | hx
     ·exact hone
     ·rw [hcr2] at hx; exact c7 x (List.mem_of_mem_drop hx)
   have hlen2 : (List.take pos B.cells ++ ([t2] ++ cr)).length = a.l.length * B.esz := by
    rw [← c5, hcr2]; simp only [List.length_append, List.length_take, List.length_drop, List.length_singleton]; omega
   simp only [hold, bO_, Option.bind_some, Sl.t, hll, hcells q2 y' hy', hz]
   rw [e3] at r3 ⊢
   rw [if_pos ⟨fun _ => c1 rfl, trivial, Nat.le_refl _, trivial, hlen2, c6, hall, by omega⟩, r3]; rfl
  ·rw [List.append_nil]; exact (hperm S1).mem_iff.2 hb
 have hsame : setS a j y = a := by
  obtain ⟨z, l⟩ := a
  simp only [setS]
  congr 1
  obtain ⟨hi, hy'⟩ := List.getElem?_eq_some_iff.1 q3
  rw [← hy']; exact List.set_getElem_self hi
 have hcy : Enc.cells y = c.take off ++ q.t :: c.drop (off + 1) := by
  obtain ⟨ho, hv'⟩ := List.getElem?_eq_some_iff.1 hv
  rw [hc, ← hv', List.getElem_cons_drop, List.take_append_drop]
 refine ⟨x' :: (G1 ++ G4), t', B, G1 ++ (G3 ++ G4), gR_ htop, ?_, hclose, fun σ1 es1 hh => by have := hclose σ1 es1 q y hcy hh; rwa [hsame] at this, hput, by simp, hB, rfl, c3, ?_, c7, k'', h3⟩
 ·refine Heap.step (es1 := [.own true w (.ref x' B.ep 0 a.l.length) a.t]) (es2 := [.own true 0 t' q.t, .keep (x' :: (G1 ++ G4)) σ]) (es := es) hH (Nat.le_refl _) fun F hF hnd hbd => ?_
  obtain ⟨S1, F1, rfl, ⟨_, _, k5, h12⟩, hnil⟩ := hF
  cases hnil
  have : S1 = x' :: (G1 ++ (G3 ++ G4)) := by
   have e1 := bW_ k' _ _ _ h2 (max k' k5) (Nat.le_max_left _ _)
   have e2 := bW_ k5 _ _ _ h12 (max k' k5) (Nat.le_max_right _ _)
   rw [ea, e1] at e2; injection e2 with e2; injection e2 with _ e2; exact e2.symm
  subst this
  rw [List.append_nil] at hnd
  have hsome : ∀ b ∈ x' :: (G1 ++ G4), (σ.blk b).isSome = true := fun b hb => io_ h12 b (by simp only [List.mem_cons, List.mem_append] at hb ⊢; rcases hb with h | h | h <;> simp [h])
  refine ⟨G3 ++ ((x' :: (G1 ++ G4)) ++ []), ⟨G3, _, rfl, ⟨htop, fun _ _ _ _ _ _ _ h => absurd rfl h, k'', h6⟩, _, [], rfl, ⟨rfl, fun b hb => ⟨rfl, hsome b hb⟩⟩, rfl⟩, ?_, fun b hb => .inl ?_, fun _ _ _ => rfl⟩
  ·rw [List.append_nil]; exact (hperm G3).nodup_iff.2 hnd
  ·rw [List.append_nil] at hb; rw [List.append_nil]; exact (hperm G3).mem_iff.1 hb
 ·rw [← hpos, hcr, hcr2]
def isLeafT : T → Bool
 | .int .. | .bool _ | .str _ => true
 | _ => false
theorem nx_ {z : Bool} {σ : St} {d : Nat} {t v : T} {S : List Nat} (hv : isLeafT v = true) (h : hold z σ d t = some (v, S)) : t = v := by
 cases v with
 | int k n => exact lY_ σ d t S h
 | bool n => exact k8_ σ d t S h
 | str n => exact mr_ σ d t S h
 | _ => cases hv
theorem hi_ {z : Bool} {σ : St} {d : Nat} : ∀ {ts vs : List T} {S : List Nat}, vs.all isLeafT = true → frzL (hold z σ d) ts = some (vs, S) → ts = vs
 | [], vs, S, _, h => by simp only [frzL] at h; injection h with h; injection h
 | t :: ts, vs, S, hv, h => by
  simp only [frzL] at h
  obtain ⟨⟨v, S1⟩, h1, h2⟩ := Option.bind_eq_some_iff.1 h
  obtain ⟨⟨us, S2⟩, h3, h4⟩ := Option.map_eq_some_iff.1 h2
  injection h4 with h4 _; subst h4
  simp only [List.all_cons, Bool.and_eq_true] at hv
  rw [nx_ hv.1 h1, hi_ hv.2 h3]
theorem pt_ {α β : Type} [Enc α] [Enc β] {w o0 sz : Nat} {m : Mo} {ad : Operand} {t : TypeId} {t1 : T} {a : Sl α} {j : Int} {y : α} {b ep off n : Nat} {c : List T} {q : Sl β} (hm : ∀ b e o n, t1 = .ref b e o n → m.lt b) (hw : want ops L g = some true) (hS : Sub L s) (hH : Heap σ0 σ (.own true w t1 a.t :: es)) (hr : t1 = .ref b ep 0 a.l.length)
  (ha : gE (get L) ad = some (.ptr b ep (j.toNat * Enc.w α + o0) n)) (hy : elt a j = some y) (hc : Enc.cells y = c) (hag : iS_ P t = some true) (hsz : szOf P t = some sz) (hv : c[off]? = some q.t) (hn : Nat.ble sz n = true) (hb0 : Nat.ble o0 off = true) (hb1 : Nat.ble (off + 1) (o0 + sz) = true) (hb2 : Nat.ble (o0 + sz) (Enc.w α) = true)
  (hl1 : ((c.drop o0).take (off - o0)).all isLeafT = true) (hl2 : ((c.drop (off + 1)).take (o0 + sz - (off + 1))).all isLeafT = true)
  (k : ∀ F σk t' s', ar_ t' → Heap σ0 σ (.own true 0 t' q.t :: .keep F σk :: es) →
   (∀ (σ1 : St) (es1 : List Ent) (q' : Sl β) (y' : α), Enc.cells y' = c.take off ++ q'.t :: c.drop (off + 1) → Heap σ0 σ1 (.own true 0 t' q'.t :: .keep F σk :: es1) → Heap σ0 σ1 (.own true w t1 (setS a j y').t :: es1)) →
   (∀ (σ1 : St) (es1 : List Ent), Heap σ0 σ1 (.own true 0 t' q.t :: .keep F σk :: es1) → Heap σ0 σ1 (.own true w t1 a.t :: es1)) →
   (∀ (σ1 : St) (es1 : List Ent) (w2 : Nat) (t2 : T) (q2 : Sl β) (y' : α), Enc.cells y' = c.take off ++ q2.t :: c.drop (off + 1) → Heap σ0 σ1 (.own true w2 t2 q2.t :: .keep F σk :: es1) → ∃ B1, σ1.blk b = some B1 ∧ B1.st = true ∧ ep = B1.ep ∧ j.toNat * Enc.w α + off + 1 ≤ B1.cells.length ∧ Heap σ0 (σ1.set b { B1 with cells := splice B1.cells (j.toNat * Enc.w α + off) [t2], low := B1.ep, ver := B1.ver + 1 }) (.own true w t1 (setS a j y').t :: es1)) →
   Heap σ0 σk (.own true w t1 a.t :: es) → b ∈ F →
   Sub (putL L d (.agg ((c.drop o0).take (off - o0) ++ t' :: (c.drop (off + 1)).take (o0 + sz - (off + 1))))) s' → opsX P O ops (nxM m) l K ⟨s', σ⟩) : opsX P O ops m (⟨d, .load t ad, ty, ps, af, g⟩ :: l) K ⟨s, σ⟩ := by
 obtain ⟨F, t', B, S', h1, h2, h3, h4, hput, hbF, h5, rfl, h7, h8, h9, kk0, h10⟩ := Heap.lens hH hr hy hc hv
 obtain ⟨q1, q2, q3⟩ := d5_ hy
 obtain ⟨p, hp⟩ : ∃ p, p = j.toNat * Enc.w α := ⟨_, rfl⟩
 have hoff : off < c.length := (List.getElem?_eq_some_iff.1 hv).1
 have hcl : c.length = Enc.w α := by rw [← hc, Enc.len]
 have hb0 := Nat.le_of_ble_eq_true hb0
 have hb1 := Nat.le_of_ble_eq_true hb1
 have hb2 := Nat.le_of_ble_eq_true hb2
 have hn := Nat.le_of_ble_eq_true hn
 have hcell : (B.cells.drop (p + o0)).take sz = (c.drop o0).take (off - o0) ++ t' :: (c.drop (off + 1)).take (o0 + sz - (off + 1)) := by
  obtain ⟨G1, G2, _, _, e2⟩ := bL_ p h10
  have hd := es_ a.l j.toNat y q3
  rw [hp, hd, hc] at e2
  obtain ⟨G3, G4, _, e4, e5⟩ := bL_ (Enc.w α) e2
  have e4' : (c ++ am_ (a.l.drop (j.toNat + 1))).take (Enc.w α) = c := by rw [← hcl, List.take_left]
  rw [e4'] at e4
  obtain ⟨D, hD⟩ : ∃ D, D = (B.cells.drop (j.toNat * Enc.w α)).take (Enc.w α) := ⟨_, rfl⟩
  rw [← hD] at e4
  obtain ⟨G5, G6, _, e6, e7⟩ := bL_ o0 e4
  obtain ⟨G7, G8, _, e8, e9⟩ := bL_ (off - o0) e7
  have f1 := hi_ hl1 e8
  obtain ⟨H5, H6, _, k6, k7⟩ := bL_ (off + 1) e4
  obtain ⟨H7, H8, _, k8, k9⟩ := bL_ (o0 + sz - (off + 1)) k7
  have f2 := hi_ hl2 k8
  have f3 : D.drop off = t' :: D.drop (off + 1) := by
   rw [hD, List.drop_take, List.drop_take, List.drop_drop, List.drop_drop, h8, show Enc.w α - off = (Enc.w α - (off + 1)) + 1 by omega, List.take_succ_cons, Nat.add_assoc]
  have f0 : (B.cells.drop (p + o0)).take sz = (D.drop o0).take sz := by
   rw [hD, hp, List.drop_take, List.drop_drop, List.take_take, Nat.min_eq_left (by omega)]
  have f4 := List.take_append_drop (off - o0) ((D.drop o0).take sz)
  rw [f0, ← f4, List.take_take, Nat.min_eq_left (by omega), f1, List.drop_take, List.drop_drop, show o0 + (off - o0) = off by omega, f3, show sz - (off - o0) = (o0 + sz - (off + 1)) + 1 by omega, List.take_succ_cons, f2]
 have hlen : sz ≤ (B.cells.drop (p + o0)).length := by
  have e := congrArg List.length hcell
  simp only [List.length_take, List.length_append, List.length_cons, List.length_drop] at e ⊢
  omega
 refine dc_ hw hS (fun kk σ' ha' => ?_) (fun s' => k F σ t' s' h1 h2 h3 h4 hput hH hbF)
 rw [← hp] at ha
 have hpart : part P t ((B.cells.drop (p + o0)).take n) 0 = some (.agg ((c.drop o0).take (off - o0) ++ t' :: (c.drop (off + 1)).take (o0 + sz - (off + 1)))) := by
  unfold part
  rw [hag, Option.bind_some, if_pos rfl, hsz, Option.bind_some, if_pos (by rw [List.length_take]; omega), List.drop_zero, List.take_take, Nat.min_eq_left hn, hcell]
 rw [hv_, ai_ hS ha, Option.bind_some, em_, Mo.al_blk ha' (hm _ _ _ _ hr), h5, Option.bind_some, if_pos h7, hpart]; rfl
end
def okPs : List (Nat × T) → List (List T) → Prop
 | [], [] => True
 | (_, v) :: ps, c :: cs => v.cells = c ∧ c.all T.one = true ∧ okPs ps cs
 | _, _ => False
def ps_ (place : Nat → Option (Nat × Nat)) (cells : List T) : List (Nat × T) → List (List T) → Option (List T)
 | [], _ => some cells
 | (i, _) :: rest, c :: cs => match place i with
  | some (off, size) => bif Nat.beq c.length size && Nat.ble (off + size) cells.length then ps_ place (splice cells off c) rest cs else none
  | none => none
 | _, _ => none
theorem no_ {place : Nat → Option (Nat × Nat)} : ∀ {ps : List (Nat × T)} {cs : List (List T)} {cells r : List T}, okPs ps cs → ps_ place cells ps cs = some r → et_ place cells ps = some r
 | [], [], cells, r, _, h => h
 | (i, v) :: ps, c :: cs, cells, r, hp, h => by
  obtain ⟨h1, h2, h3⟩ := hp
  simp only [ps_] at h
  split at h
  ·rename_i off size hpl
   simp only [et_, hpl, Option.bind_some, h1]
   cases hb : Nat.beq c.length size && Nat.ble (off + size) cells.length with
   | true =>
    rw [hb] at h
    simp only [Bool.and_eq_true] at hb
    rw [if_pos ⟨Nat.eq_of_beq_eq_true hb.1, Nat.le_of_ble_eq_true hb.2, h2⟩]
    exact no_ h3 h
   | false => rw [hb] at h; cases h
  ·cases h
 | [], _ :: _, _, _, hp, _ => hp.elim
 | _ :: _, [], _, _, hp, _ => by exact hp.elim
section
variable {P : Program} {O : aM_}
variable {ops : Array Oper} {m : Mo} {l : List Oper} {K : Fr → Prop} {s : Nat → T} {σ σ0 : St} {L : List (Nat × T)}
variable {d : Option Nat} {ty : TypeId} {ps : String} {af : Array Edge} {g : Option (Nat × Bool)}
theorem ln_ {t : TypeId} {parts : Array (Nat × Operand)} {qs : List (Nat × T)} {z r : List T} (cs : List (List T)) (hw : want ops L g = some true) (hS : Sub L s) (hg : gPs (get L) parts.toList = some qs) (hz : aZ_ P t = some z)
  (hk : (Nat.beq (aH_ P t) 7 && (b6_ P t).all (fun f => (szOf P f.type).isSome)) = true) (ho : okPs qs cs) (hf : ps_ (fun i => (bu_ P t i).map fun (o, _, n) => (o, n)) z qs cs = some r)
  (k : ∀ s', Sub (putL L d (.agg r)) s' → opsX P O ops (nxM m) l K ⟨s', σ⟩) : opsX P O ops m (⟨d, .build t parts, ty, ps, af, g⟩ :: l) K ⟨s, σ⟩ := by
 simp only [Bool.and_eq_true] at hk
 refine dc_ hw hS (fun kk σ' _ => ?_) k
 show ((aZ_ P t).bind fun z => (dh_ s parts.toList).bind fun ps => if aH_ P t = 7 ∧ (b6_ P t).all (fun f => (szOf P f.type).isSome) = true then ((et_ (fun i => (bu_ P t i).map fun (o, _, n) => (o, n)) z ps).map .agg).map (fun x => ARes.val x σ') else none) = _
 rw [hz, Option.bind_some, fN_ hS hg, Option.bind_some, if_pos ⟨Nat.eq_of_beq_eq_true hk.1, hk.2⟩, no_ ho hf]; rfl
end
def remI (a b : Int) : Option Int := if b = 0 then none else some (a.tmod b)
def quoI (k : IntKind) (a b : Int) : Option Int := if b = 0 then none else some (k.wrap (a.tdiv b))
section
variable {P : Program} {O : aM_}
variable {ops : Array Oper} {m : Mo} {l : List Oper} {K : Fr → Prop} {s : Nat → T} {σ : St} {L : List (Nat × T)}
variable {d : Option Nat} {ty : TypeId} {ps : String} {af : Array Edge} {g : Option (Nat × Bool)}
theorem i9_ {x y : Operand} {t u : TypeId} {kk : IntKind} {a b r : Int} (hw : want ops L g = some true) (hS : Sub L s) (hx : gE (get L) x = some (.int kk a)) (hy : gE (get L) y = some (.int kk b)) (h : remI a b = some r)
  (k : ∀ s', Sub (putL L d (.int kk r)) s' → opsX P O ops (nxM m) l K ⟨s', σ⟩) : opsX P O ops m (⟨d, .binOp .rem t x y u, ty, ps, af, g⟩ :: l) K ⟨s, σ⟩ := by
 unfold remI at h
 split at h
 ·cases h
 ·rename_i hb
  injection h with h; subst h
  exact dc_ hw hS (fun k' σ' _ => by rw [he_, ai_ hS hx, Option.bind_some, ai_ hS hy, Option.bind_some, lR_, sd_, if_neg hb]; rfl) k
theorem tn_ {x y : Operand} {t u : TypeId} {kk : IntKind} {a b r : Int} (hw : want ops L g = some true) (hS : Sub L s) (hx : gE (get L) x = some (.int kk a)) (hy : gE (get L) y = some (.int kk b)) (h : quoI kk a b = some r)
  (k : ∀ s', Sub (putL L d (.int kk r)) s' → opsX P O ops (nxM m) l K ⟨s', σ⟩) : opsX P O ops m (⟨d, .binOp .quo t x y u, ty, ps, af, g⟩ :: l) K ⟨s, σ⟩ := by
 unfold quoI at h
 split at h
 ·cases h
 ·rename_i hb
  injection h with h; subst h
  exact dc_ hw hS (fun k' σ' _ => by rw [he_, ai_ hS hx, Option.bind_some, ai_ hS hy, Option.bind_some, lR_, s8_, if_neg hb]; rfl) k
end
end Go.Am
end
section
set_option linter.unusedVariables false
set_option linter.unusedSimpArgs false
namespace Go.Am
section
variable {P : Program} {O : aM_} {ops : Array Oper} {l : List Oper} {K : Fr → Prop} {s : Nat → T} {σ σ0 : St} {L : List (Nat × T)} {es ents : List Ent}
variable {d : Option Nat} {ty : TypeId} {ps : String} {af : Array Edge} {g : Option (Nat × Bool)}
theorem Heap.toFrt {z : Bool} {w : Nat} {t v : T} (h : Heap σ0 σ (.own z w t v :: es)) : Heap σ0 σ (.frt z w t v :: es) :=
 Heap.step (es1 := [.own z w t v]) (es2 := [.frt z w t v]) (es := es) h (Nat.le_refl _) fun S hS hnd hbd => by
  obtain ⟨S1, F1, rfl, h1, hnil⟩ := hS
  exact ⟨S1 ++ F1, ⟨S1, F1, rfl, .inl h1, hnil⟩, hnd, fun b hb => .inl hb, fun _ _ _ => rfl⟩
theorem Heap.ofFrt {α : Type} [Enc α] {z : Bool} {w : Nat} {t : T} {a : Sl α} (h : Heap σ0 σ (.frt z w t a.t :: es)) (ha : (a.z || !decide (a.l.length = 0)) = true) : Heap σ0 σ (.own z w t a.t :: es) :=
 Heap.step (es1 := [.frt z w t a.t]) (es2 := [.own z w t a.t]) (es := es) h (Nat.le_refl _) fun S hS hnd hbd => by
  obtain ⟨S1, F1, rfl, h1, hnil⟩ := hS
  refine ⟨S1 ++ F1, ⟨S1, F1, rfl, ?_, hnil⟩, hnd, fun b hb => .inl hb, fun _ _ _ => rfl⟩
  rcases h1 with h1 | ⟨hv, _⟩
  ·exact h1
  ·have hv : T.row a.z a.l.length (am_ a.l) = .row false 0 [] := hv
   injection hv with h1 h2 _
   rw [h1, h2] at ha; simp at ha
theorem oU_ {α : Type} [Enc α] {x hi : Operand} {t e : TypeId} {t1 : T} {a : Sl α} {w : Nat} {kk : IntKind} (hw : want ops L g = some true) (hS : Sub L s) (hH : Heap σ0 σ (.own true w t1 a.t :: es)) (hx : gE (get L) x = some t1) (hhi : gE (get L) hi = some (.int kk 0))
  (he : av_ P t = some e) (hz : szOf P e = some (Enc.w α)) (hsz : Nat.beq (Enc.w α) 0 = false) (hne : (!decide (a.l.length = 0)) = true)
  (k : ∀ t' s', ar_ t' → Heap σ0 σ (.frt true (Enc.w α) t' (Sl.t (⟨false, []⟩ : Sl α)) :: es) → Sub (putL L d t') s' → opsX P O ops .q l K ⟨s', σ⟩) : opsX P O ops .q (⟨d, .slice t x none (some hi) none, ty, ps, af, g⟩ :: l) K ⟨s, σ⟩ := by
 have hne : a.l.length ≠ 0 := by simpa using hne
 have hsz := Nat.ne_of_beq_eq_false hsz
 obtain ⟨S, ⟨ht, hwd, k', h2⟩, _, _⟩ := hH.head
 have ea : a.t = .row a.z a.l.length (am_ a.l) := rfl
 rw [ea] at h2
 rcases cP_ ht h2 with ⟨rfl, hz, hn0, hcs, rfl⟩ | ⟨rfl, hz, hn0, hcs, rfl⟩ | ⟨hzz, x', B, S', k'', rfl, hB, c1, c3, c5, c6, c7, h3, rfl⟩
 ·exact absurd hn0 hne
 ·exact absurd hn0 hne
 ·have hesz := jI_ c5 h3 (by omega)
  refine dc_ hw hS (v := .ref x' B.ep 0 0) (fun kk σ' ha' => ?_) (fun s' hs' => k _ s' ⟨rfl, rfl⟩ ?_ hs')
  ·obtain rfl := ha'
   rw [j7_, ai_ hS hx, Option.bind_some, eL_, Option.bind_some]
   show ((Option.map some (evalO s hi)).bind _) = _
   rw [ai_ hS hhi, Option.map_some, Option.bind_some, Option.bind_some, j6_]
   simp only [okO, Bool.and_self, if_true, i3_, he, hz, hB, Option.bind_some, boundA]
   simp [hesz, c3, hsz]
  ·refine Heap.step (es1 := [.own true w (.ref x' B.ep 0 a.l.length) a.t]) (es2 := [.frt true (Enc.w α) (.ref x' B.ep 0 0) (Sl.t (⟨false, []⟩ : Sl α))]) (es := es) hH (Nat.le_refl _) fun S hS hnd hbd => ?_
   obtain ⟨S1, F1, rfl, ⟨_, _, k5, h5⟩, hnil⟩ := hS
   cases hnil
   have hm := eK_ h5
   refine ⟨[x'], ⟨[x'], [], rfl, .inr ⟨rfl, x', B, rfl, rfl, hB, c1 rfl, c3, hesz, hsz⟩, rfl⟩, by simp, fun b hb => .inl ?_, fun _ _ _ => rfl⟩
   simp at hb; subst hb; simpa using hm
def kP_ {α : Type} (by_ : Nat) (x0 : α) (n : Int) : Option (Sl α) := if 0 < n ∧ n * by_ ≤ 1099511627776 then some ⟨false, List.replicate n.toNat x0⟩ else none
theorem r5_ {α : Type} [Enc α] {z : Bool} {x y : Operand} {kk : IntKind} {n : Int} {t t2 e by_ : Nat} {x0 : α} {r : Sl α} (hz0 : ∀ σ d, frzL (hold z σ d) (Enc.cells x0) = some (Enc.cells x0, [])) (hw : want ops L g = some true) (hS : Sub L s) (hH : Heap σ0 σ es)
  (hx : gE (get L) x = some (.row true 0 [])) (hy : gE (get L) y = some (.int kk n)) (he : av_ P t = some e) (hz : szOf P e = some (Enc.w α)) (hby : bY_ P e = some by_) (hzz : aZ_ P e = some (Enc.cells x0))
  (hcl : (b0_ P t2 && !Nat.beq (Enc.w α) 0 && !Nat.beq by_ 0 && Nat.ble by_ 1048576) = true) (hc : kP_ by_ x0 n = some r)
  (k : ∀ t' σ' s', ar_ t' → Heap σ0 σ' (.own z (Enc.w α) t' r.t :: es) → Sub (putL L d t') s' → opsX P O ops .q l K ⟨s', σ'⟩) : opsX P O ops .q (⟨d, .call ⟨.builtin .append, #[x, y], #[t, t2]⟩, ty, ps, af, g⟩ :: l) K ⟨s, σ⟩ := by
 simp only [Bool.and_eq_true, Bool.not_eq_true'] at hcl
 obtain ⟨⟨⟨c1, c2⟩, c3⟩, c4⟩ := hcl
 have c2 := Nat.ne_of_beq_eq_false c2; have c3 := Nat.ne_of_beq_eq_false c3; have c4 := Nat.le_of_ble_eq_true c4
 unfold kP_ at hc
 split at hc
 ·rename_i hh
  injection hc with hc; subst hc
  have hlen : ((List.replicate n.toNat (Enc.cells x0)).flatten).length = n.toNat * Enc.w α := by simp [Enc.len]
  have hfr : ∀ (σ' : St) (m : Nat), frzL (hold z σ' 0) (am_ (List.replicate m x0)) = some (am_ (List.replicate m x0), []) := fun σ' m => by
   induction m with
   | zero => rfl
   | succ m ih => simpa [List.replicate_succ, am_] using bR_ (hz0 σ' 0) ih
  have hrow : Sl.t (⟨false, List.replicate n.toNat x0⟩ : Sl α) = .row false n.toNat (am_ (List.replicate n.toNat x0)) := by simp [Sl.t]
  refine nm_ (v := .ref σ.next 0 0 n.toNat) (σ' := σ.pushK none (aP_ ((List.replicate n.toNat (Enc.cells x0)).flatten) (Enc.w α))) (aJ_ hS hw) ?_ ?_
  ·have ev : bA_ s [x, y] = some [.row true 0 [], .int kk n] := by simp only [bA_, ai_ hS hx, ai_ hS hy, Option.bind_some, Option.map_some]
   show ((bA_ s [x, y]).bind fun args => match args, [t, t2] with | [x, y], [t, t2] => (a7_ P none σ t t2 x y).map fun (x, σ) => ARes.val x σ | _, _ => none) = _
   rw [ev, Option.bind_some]
   show (a7_ P none σ t t2 _ _).map _ = _
   unfold a7_
   rw [he, Option.bind_some, hz, Option.bind_some, hby, Option.bind_some, hzz, Option.bind_some, if_pos c1, if_neg (by rintro (h | h | h | h); exact h (Enc.len x0); exact c2 h; exact c3 h; omega)]
   unfold appZ
   simp only
   rw [if_pos ⟨hh.1, hh.2, rfl⟩]; rfl
  ·rw [bT_]
   refine k _ _ _ ⟨rfl, rfl⟩ ?_ (a0_ hS d _ σ)
   rw [hrow, ← dH_]
   refine Heap.step (es1 := []) (es2 := [.own z (Enc.w α) (.ref σ.next 0 0 n.toNat) (.row false n.toNat (am_ (List.replicate n.toNat x0)))]) (es := es) hH (by simp) fun S hS _ _ => ?_
   refine ⟨[σ.next], ⟨[σ.next], [], rfl, ⟨rfl, (fun b e o n B h hB _ => by injection h with h; subst h; rw [gE_] at hB; injection hB with hB; subst hB; rfl), 1, ?_⟩, rfl⟩, by simp, fun b hb => by simp at hb; subst hb; exact .inr ⟨Nat.le_refl _, by simp⟩, fun b hb _ => by rw [jK_, if_neg (by omega)]⟩
   simp only [hold, gE_, Option.bind_some, du_, hfr, Option.map_some]
   rw [if_pos (by simp only [aP_]; exact ⟨fun _ => trivial, trivial, Nat.le_refl _, trivial, by rw [dH_]; exact hlen, c2, cellsL_one _, by have := hh.1; omega⟩)]
 ·cases hc
theorem pE_ {m : Mo} {x : Operand} {t : TypeId} (hw : want ops L g = some true) (hS : Sub L s) (hx : gE (get L) x = some (.row true 0 [])) (hk : aH_ P t = 4)
  (k : ∀ s', Sub (putL L d (.int .i64 0)) s' → opsX P O ops (nxM m) l K ⟨s', σ⟩) : opsX P O ops m (⟨d, .call ⟨.builtin .cap, #[x], #[t]⟩, ty, ps, af, g⟩ :: l) K ⟨s, σ⟩ :=
 dc_ hw hS (fun kk σ' _ => by
  have ev : bA_ s [x] = some [.row true 0 []] := by simp only [bA_, ai_ hS hx, Option.bind_some, Option.map_some]
  show ((bA_ s [x]).bind fun args => match args, [t] with | [x], [t] => (capA P t x).map fun x => ARes.val x σ' | _, _ => none) = _
  rw [ev, Option.bind_some]
  show (capA P t (.row true 0 [])).map _ = _
  simp only [capA, hk, if_true]; rfl) k
theorem th_ {α : Type} [Enc α] {z : Bool} [Hld z α] {x y : Operand} {t1 : T} {a b c : Sl α} {t t2 e by_ : Nat} {zc : List T} (hw : want ops L g = some true) (hS : Sub L s) (hH : Heap σ0 σ (.frt z (Enc.w α) t1 a.t :: es))
  (hx : gE (get L) x = some t1) (hy : gE (get L) y = some b.t) (he : av_ P t = some e) (hz : szOf P e = some (Enc.w α)) (hby : bY_ P e = some by_) (hzz : aZ_ P e = some zc)
  (hcl : (!b0_ P t2 && Nat.beq zc.length (Enc.w α) && !Nat.beq (Enc.w α) 0 && !Nat.beq by_ 0 && Nat.ble by_ 1048576) = true) (hk : aH_ P t2 = 4) (hc : appS by_ a b = some c)
  (kk : ∀ t' σ' s', ar_ t' → Heap σ0 σ' (.frt z (Enc.w α) t' c.t :: es) → Sub (putL L d t') s' → opsX P O ops .q l K ⟨s', σ'⟩) : opsX P O ops .q (⟨d, .call ⟨.builtin .append, #[x, y], #[t, t2]⟩, ty, ps, af, g⟩ :: l) K ⟨s, σ⟩ := by
 obtain ⟨S, h1, hnd, hbd⟩ := hH.head
 rcases h1 with h1 | ⟨hv, x', B, rfl, rfl, hB, d1, d2, d3, d4⟩
 ·have hH' : Heap σ0 σ (.own z (Enc.w α) t1 a.t :: es) := Heap.step (es1 := [.frt z (Enc.w α) t1 a.t]) (es2 := [.own z (Enc.w α) t1 a.t]) (es := es) hH (Nat.le_refl _) fun S' hS' hnd' hbd' => by
   obtain ⟨S1, F1, rfl, h2, hnil⟩ := hS'
   cases hnil
   rcases h2 with h2 | ⟨hv, x', B, rfl, rfl, hB, d1, d2, d3, d4⟩
   ·exact ⟨S1 ++ [], ⟨S1, [], rfl, h2, rfl⟩, hnd', fun b hb => .inl hb, fun _ _ _ => rfl⟩
   ·obtain ⟨ht, hwd, k, h3⟩ := h1
    have hv' : a.t = .row false 0 [] := hv
    rw [hv'] at h3
    rcases cP_ ht h3 with ⟨h, _⟩ | ⟨h, _⟩ | ⟨_, x2, B2, _, _, h, _, _, _, _, _, _, _, _⟩
    ·cases h
    ·cases h
    ·exfalso
     cases k with
     | zero => cases h3
     | succ k =>
      simp only [hold, hB, Option.bind_some] at h3
      rw [if_neg (fun hh => hh.2.2.2.2.2.2.2 rfl)] at h3; cases h3
  exact rO_ hw hS hH' hx hy he hz hby hzz hcl hk hc fun t' σ' s' k1 k2 k3 => kk t' σ' s' k1 k2.toFrt k3
 ·have hv : T.row a.z a.l.length (am_ a.l) = .row false 0 [] := hv
  injection hv with e1 e2 e3
  have ha : a = ⟨false, []⟩ := by
   obtain ⟨az, al⟩ := a
   simp only at e1 e2
   rw [e1, List.length_eq_zero_iff.1 e2]
  subst ha
  simp only [Bool.and_eq_true, Bool.not_eq_true'] at hcl
  obtain ⟨⟨⟨⟨c1, c2⟩, c3⟩, c4⟩, c5⟩ := hcl
  have c2 := Nat.eq_of_beq_eq_true c2; have c3 := Nat.ne_of_beq_eq_false c3; have c4 := Nat.ne_of_beq_eq_false c4; have c5 := Nat.le_of_ble_eq_true c5
  have hnews : ep_ σ (Enc.w α) b.t = some (b.l.length, am_ b.l) := by simp only [ep_, Sl.t, cellsOf, Option.bind_some, cellsL_len, if_true]
  have hsrc : ex_ P t2 b.t = true := by simp [ex_, Sl.t, T.isStr, hk]
  have ev : bA_ s [x, y] = some [.ref x' B.ep 0 0, b.t] := by simp only [bA_, ai_ hS hx, ai_ hS hy, Option.bind_some, Option.map_some]
  have hop : ∀ r, a7_ P none σ t t2 (.ref x' B.ep 0 0) b.t = some r → aOp P none ⟨s, σ⟩ ⟨d, .call ⟨.builtin .append, #[x, y], #[t, t2]⟩, ty, ps, af, g⟩ = some (ARes.val r.1 r.2) := fun r h => by
   show ((bA_ s [x, y]).bind fun args => match args, [t, t2] with | [x, y], [t, t2] => (a7_ P none σ t t2 x y).map fun (x, σ) => ARes.val x σ | _, _ => none) = _
   rw [ev, Option.bind_some]
   show (a7_ P none σ t t2 _ _).map _ = _
   rw [h]; rfl
  have happ : a7_ P none σ t t2 (.ref x' B.ep 0 0) b.t = if b.l.length = 0 then (if B.esz = Enc.w α ∧ B.low ≤ B.ep then some (.ref x' B.ep 0 0, σ) else none)
     else if 0 = 0 ∧ B.ep = B.ep ∧ B.esz = Enc.w α ∧ B.cells.length = 0 * Enc.w α ∧ (0 + b.l.length) * by_ ≤ 2 ^ 40 then
      some (.ref x' (B.ep + 1) 0 (0 + b.l.length), σ.set x' { B with cells := B.cells ++ am_ b.l, ep := B.ep + 1, ver := B.ver + 1 })
     else if 0 = 0 ∧ B.ep = B.ep ∧ B.esz = Enc.w α ∧ 0 * Enc.w α ≤ B.cells.length ∧ B.st = true ∧ (0 + b.l.length) * by_ ≤ 2 ^ 40 then
      some (.ref x' (B.ep + 2) 0 (0 + b.l.length), σ.set x' { B with cells := B.cells.take (0 * Enc.w α) ++ am_ b.l, ep := B.ep + 2, low := B.ep + 1, ver := B.ver + 2 })
     else none := by
   unfold a7_
   rw [he, Option.bind_some, hz, Option.bind_some, hby, Option.bind_some, hzz, Option.bind_some, c1, if_neg (by simp), if_neg (by omega), hnews, Option.bind_some]
   simp only
   rw [if_neg (by simp [cellsL_one, hsrc])]
   simp only [hB, Option.bind_some]
  rcases gP_ hc with ⟨hb, rfl⟩ | ⟨hb, hlim, rfl⟩
  ·have hb0 : b.l.length = 0 := by rw [hb]; rfl
   refine nm_ (aJ_ hS hw) (hop (.ref x' B.ep 0 0, σ) (by rw [happ, if_pos hb0, if_pos ⟨d3, d2⟩])) ?_
   rw [bT_]
   exact kk _ _ _ ⟨rfl, rfl⟩ hH (a0_ hS d _ σ)
  ·have hb0 : b.l.length ≠ 0 := fun h => hb (List.length_eq_zero_iff.1 h)
   have hlim' : (0 + b.l.length) * by_ ≤ 2 ^ 40 := by simpa using hlim
   have fin : ∀ B' : Blk, B'.cells = am_ b.l → B'.esz = B.esz → B'.low ≤ B'.ep → B'.st = true → Heap σ0 (σ.set x' B') (.frt z (Enc.w α) (.ref x' B'.ep 0 (0 + b.l.length)) (Sl.t (⟨false, [] ++ b.l⟩ : Sl α)) :: es) := fun B' q1 q2 q3 q4 => by
    refine Heap.toFrt (Heap.step (es1 := [.frt z (Enc.w α) (.ref x' B.ep 0 0) (Sl.t (⟨false, []⟩ : Sl α))]) (es2 := [.own z (Enc.w α) (.ref x' B'.ep 0 (0 + b.l.length)) (Sl.t (⟨false, [] ++ b.l⟩ : Sl α))]) (es := es) hH (by simp) fun S hS hnd hbd => ?_)
    obtain ⟨S1, F1, rfl, h2, hnil⟩ := hS
    cases hnil
    have hx1 : x' ∈ S1 := by
     rcases h2 with ⟨_, _, k, h2⟩ | ⟨_, b2, B2, h2, rfl, _⟩
     ·exact eK_ h2
     ·injection h2 with h2 _; subst h2; simp
    refine ⟨[x'], ⟨[x'], [], rfl, ⟨rfl, (fun b e o n B2 h hB2 _ => by injection h with h; subst h; rw [bO_] at hB2; injection hB2 with hB2; subst hB2; rw [q2, d3]), 1, ?_⟩, rfl⟩, by simp, fun b hb => .inl ?_, fun y hy hm => ?_⟩
    ·simp only [hold, bO_, Option.bind_some, q1, Hld.list, Option.map_some, Sl.t, List.nil_append]
     rw [Nat.zero_add, if_pos ⟨fun _ => q4, trivial, q3, trivial, by rw [cellsL_len, q2, d3], by rw [q2, d3]; exact d4, cellsL_one _, hb0⟩]
    ·simp at hb; subst hb; simpa using hx1
    ·rw [ct_, if_neg (fun e => hm (by simp [e, hx1]))]
   by_cases hcl : B.cells.length = 0 * Enc.w α
   ·have hnil : B.cells = [] := List.length_eq_zero_iff.1 (by simpa using hcl)
    refine nm_ (aJ_ hS hw) (hop (.ref x' (B.ep + 1) 0 (0 + b.l.length), σ.set x' { B with cells := B.cells ++ am_ b.l, ep := B.ep + 1, ver := B.ver + 1 }) (by rw [happ, if_neg hb0, if_pos ⟨rfl, rfl, d3, hcl, hlim'⟩])) ?_
    rw [bT_]
    exact kk _ _ _ ⟨rfl, rfl⟩ (fin _ (by simp [hnil]) rfl (Nat.le_succ_of_le d2) d1) (a0_ hS d _ σ)
   ·refine nm_ (aJ_ hS hw) (hop (.ref x' (B.ep + 2) 0 (0 + b.l.length), σ.set x' { B with cells := B.cells.take (0 * Enc.w α) ++ am_ b.l, ep := B.ep + 2, low := B.ep + 1, ver := B.ver + 2 }) (by rw [happ, if_neg hb0, if_neg fun h => hcl h.2.2.2.1, if_pos ⟨rfl, rfl, d3, by simp, d1, hlim'⟩])) ?_
    rw [bT_]
    exact kk _ _ _ ⟨rfl, rfl⟩ (fin _ (by simp) rfl (by simp) d1) (a0_ hS d _ σ)
end
section
variable {P : Program} {md : Nat → Md} {X : Ext} {ops : Array Oper} {m : Mo} {l : List Oper} {K : Fr → Prop} {s : Nat → T} {σ σ0 : St} {L : List (Nat × T)} {es ents : List Ent} {f : Nat}
variable {d : Option Nat} {ty : TypeId} {ps : String} {af : Array Edge} {g : Option (Nat × Bool)}
theorem nq_ (hX : XOk X) (hm : m.chg = true) {o : Oper} {args : List T} {r : T} {σ' : St} (hwr : ∀ x, m.wr x ∨ σ'.blk x = σ.blk x) (hcl : isCall o.op = true) (hw : wantedA ops o s = true) (h : ∀ k σ, aOp P k ⟨s, σ⟩ o = some (.call f args)) (hc : run P md X f args σ = some (r, σ'))
  (kk : opsX P (run P md X) ops (nxM m) l K (Fr.put ⟨s, σ⟩ o.dst r σ')) : opsX P (run P md X) ops m (o :: l) K ⟨s, σ⟩ := by
 cases m with
 | q => show opQ P (run P md X) ops none o (opsQ P (run P md X) ops l K) ⟨s, σ⟩; unfold opQ; simp only [hw, cond_true, h]; exact ⟨r, σ', hc, kk⟩
 | d b i => cases hm
 | c b i W σs cm =>
  intro hA hR
  have free : ∀ x, σ.blk x = none → x < σ.next → σ'.blk x = none ∧ x < σ'.next := fun x h1 h2 => (pU_ hX (B := aP_ [] 0) hc h1 h2).2
  have hR0 : b + i + (l.length + 1) ≤ σ.next := hR.1
  have hR1 : b + (i + 1) + l.length ≤ σ.next := hR.nxt.1
  have h0 := free (b + i) (by have := hR.2 0 (by simp); simpa using this) (by omega)
  have hA' : eO_ b W σs σ' := ⟨by omega, fun x hx hx' => by
   rcases hwr x with (h | ⟨c, _, h⟩) | h
   ·omega
   ·exact absurd h (hx' c)
   ·rw [h, hA.2 x hx hx']⟩
  have hR' : Room b (i + 1) l.length σ' := ⟨by
   by_cases hl : l.length = 0
   ·omega
   ·have := (free (b + (i + 1) + (l.length - 1)) (hR.nxt.2 _ (by omega)) (by omega)).2
    omega, fun j hj => (free _ (hR.nxt.2 j hj) (by omega)).1⟩
  have hp : (Fr.put ⟨s, σ⟩ o.dst r σ').σ = σ' := by cases o.dst <;> rfl
  have kk := kk (by rw [hp]; exact hA') (by rw [hp]; exact hR')
  have hs : df_ P (run P md X) ops (b + i) o s σ = some (r, σ') := by simp only [df_, hw, if_true, h, Option.bind_some, hc]
  have hm' : (!cm.vw i) = true := hm
  unfold opsC
  simp only [jp_ hcl, hm', hw, Bool.and_self]
  refine ⟨r, σ', hs, fun x hx hwf => ?_, hA', hR', kk⟩
  rcases hwr x with (h | ⟨c, h1, h2⟩) | h
  ·omega
  ·exact absurd h2 (hwf c h1)
  ·exact h
def EB : Ent → Nat → Prop
 | .box b _, x => x = b
 | .own _ _ t _, x => BT t x
 | .flt _ t _, x => BT t x
 | .keep F _, x => x ∈ F
 | .frt .., _ => False
theorem pY_ {σ : St} : ∀ {es : List Ent} {F : List Nat}, cY_ σ es F → ∀ {e : Ent}, e ∈ es → ∀ {x : Nat}, EB e x → x ∈ F
 | e0 :: es, F, h, e, he, x, hx => by
  obtain ⟨S, F', rfl, h1, h2⟩ := h
  rcases List.mem_cons.1 he with rfl | he
  ·refine List.mem_append_left _ ?_
   cases e with
   | box b c => obtain ⟨rfl, _⟩ := h1; rw [show x = b from hx]; simp
   | own z w t v => obtain ⟨e, o, n, rfl⟩ := hx; obtain ⟨_, _, k, h6⟩ := h1; exact eK_ h6
   | flt w t v =>
    obtain ⟨e, o, n, rfl⟩ := hx
    rcases h1 with ⟨h1, _⟩ | ⟨h1, _⟩ | ⟨b, B, n', h1, _, rfl, _⟩
    ·cases h1
    ·cases h1
    ·injection h1 with h1; rw [h1]; simp
   | keep F2 σk => obtain ⟨rfl, _⟩ := h1; exact hx
   | frt => exact hx.elim
  ·exact List.mem_append_right _ (pY_ h2 he hx)
 | [], _, _, _, he, _, _ => by cases he
theorem Heap.wrap' {σ0 σ : St} {ents E : List Ent} (h : Heap σ0 σ (ents ++ E)) : ∃ F, Heap σ0 σ (ents ++ [.keep F σ]) ∧ (∀ σ' ents', Heap σ0 σ' (ents' ++ [.keep F σ]) → Heap σ0 σ' (ents' ++ E)) ∧ ∀ e ∈ E, ∀ x, EB e x → x ∈ F := by
 obtain ⟨F, h1, h2, h3⟩ := h.ex
 obtain ⟨F1, F2, rfl, h4, h5⟩ := h1.split
 refine ⟨F2, ⟨h.grow, F1 ++ F2, h4.join ⟨F2, [], by simp, ⟨rfl, fun b hb => ⟨rfl, h5.some b hb⟩⟩, rfl⟩, h2, h3⟩, fun σ' ents' k => ?_, fun e he x hx => pY_ h5 he hx⟩
 obtain ⟨G, k1, k2, k3⟩ := k.ex
 obtain ⟨G1, G2, rfl, k4, k5⟩ := k1.split
 obtain ⟨S, F', rfl, ⟨rfl, k6⟩, k7⟩ := k5
 cases k7
 simp only [List.append_nil] at k2 k3
 exact ⟨k.grow, G1 ++ S, k4.join (h5.same fun b hb => (k6 b hb).1), k2, k3⟩
def Stay (R : Nat → Prop) (es : List Ent) : Prop := ∀ x, R x → ∃ e ∈ es, EB e x
theorem Stay.nil {es : List Ent} : Stay RN es := fun x h => h.elim
theorem Stay.box {R : Nat → Prop} {es : List Ent} {b : Nat} {c : List T} (h : Ent.box b c ∈ es) (k : Stay R es) : Stay (RB b R) es := fun y hy => by
 rcases hy with rfl | hy
 ·exact ⟨_, h, rfl⟩
 ·exact k y hy
theorem Stay.own {R : Nat → Prop} {es : List Ent} {z : Bool} {w : Nat} {t v : T} (h : Ent.own z w t v ∈ es) (k : Stay R es) : Stay (RT t R) es := fun y hy => by
 rcases hy with hy | hy
 ·exact ⟨_, h, hy⟩
 ·exact k y hy
theorem l0_ (hX : XOk X) (hm : m.chg = true) (R : Nat → Prop) (hR : Stay R es) (hwr : ∀ x, ¬ R x → m.wr x) {fo : Operand} {as : Array Operand} {tys : Array TypeId} {a b xs : List T} {n : Nat} {tree : List T → T} {ents' : List T → List Ent} (hw : want ops L g = some true) (hS : Sub L s) (hf : gE (get L) fo = some (.fn f a b)) (ha : gEs (get L) as.toList = some xs)
  (hH : Heap σ0 σ (ents ++ es)) (hr : RawS P md X f (a ++ xs ++ b) n tree ents ents')
  (k : ∀ hs σ' s', hs.length = n → Heap σ0 σ' (ents' hs ++ es) → Sub (putL L d (tree hs)) s' → opsX P (run P md X) ops (nxM m) l K ⟨s', σ'⟩) : opsX P (run P md X) ops m (⟨d, .call ⟨.value fo, as, tys⟩, ty, ps, af, g⟩ :: l) K ⟨s, σ⟩ := by
 obtain ⟨F, hw1, hw2, hw3⟩ := Heap.wrap' hH
 obtain ⟨hs, σ', h1, h2, h3k⟩ := hr σ0 σ _ hw1
 have h3 := hw2 _ _ h3k
 have hst : ∀ x, R x → σ'.blk x = σ.blk x := fun x hx => by
  obtain ⟨e, he, hc⟩ := hR x hx
  have hF : x ∈ F := hw3 e he x hc
  obtain ⟨G', k1, _⟩ := h3k.ex
  obtain ⟨G3, G4, rfl, k3, k4⟩ := k1.split
  obtain ⟨S, F', rfl, ⟨rfl, k6⟩, k7⟩ := k4
  exact (k6 x hF).1
 refine nq_ hX hm (fun x => by by_cases hx : R x; exact .inr (hst x hx); exact .inl (hwr x hx)) (f := f) (args := a ++ xs ++ b) rfl (aJ_ hS hw) (fun kk σ2 => by rw [h3_, cw_ hS ha, Option.bind_some, ai_ hS hf]; rfl) h2 ?_
 rw [bT_]
 exact k _ _ _ h1 h3 (a0_ hS d _ σ)
theorem tb_ {HF : (Nat → T) → St → Prop} (hX : XOk X) (hm : m.chg = true) (R : Nat → Prop) (hst : ∀ s σ', HF s σ' → ∀ x, R x → σ'.blk x = σ.blk x) (hwr : ∀ x, ¬ R x → m.wr x) {fo : Operand} {as : Array Operand} {tys : Array TypeId} {a b xs : List T} {c : Code} {n0 : Nat} {rs : List ResultVar} (args : List T) (hw : want ops L g = some true) (hS : Sub L s) (hf : gE (get L) fo = some (.fn f a b)) (ha : gEs (get L) as.toList = some xs)
  (hab : a ++ xs ++ b = args) (hv : md f = .raw) (hXf : X f = none) (hok : Ok P f c n0 rs) (hlen : Nat.ble args.length n0 = true)
  (h : ∀ s1, Sub (nums 0 args) s1 → codeQ P (run P md X) c (endI P rs fun v σ' => ∀ s', Sub (putL L d v) s' → HF s' σ') ⟨s1, σ⟩)
  (k : ∀ s' σ', HF s' σ' → opsX P (run P md X) ops (nxM m) l K ⟨s', σ'⟩) : opsX P (run P md X) ops m (⟨d, .call ⟨.value fo, as, tys⟩, ty, ps, af, g⟩ :: l) K ⟨s, σ⟩ := by
 subst hab
 obtain ⟨fn, k1, k2, k3, k4, k5, k6⟩ := hok
 obtain ⟨x, fr, m1, m2⟩ := codeQ_sound (h _ (e7_ _))
 have hx : (x = .normal ∨ x = .ret) ∧ ∃ l1, resL P fr rs = some l1 ∧ ∀ s', Sub (putL L d (tupOf l1)) s' → HF s' fr.σ := by
  cases x with
  | normal => exact ⟨.inl rfl, m2⟩
  | ret => exact ⟨.inr rfl, m2⟩
  | exit i => exact m2.elim
 obtain ⟨hx, l1, q1, q2⟩ := hx
 have hHF := q2 _ (a0_ hS d _ σ)
 refine nq_ hX hm (fun x => by by_cases hx : R x; exact .inr (hst _ _ hHF x hx); exact .inl (hwr x hx)) (f := f) (args := a ++ xs ++ b) (r := tupOf l1) (σ' := fr.σ) rfl (aJ_ hS hw) (fun kk σ2 => by rw [h3_, cw_ hS ha, Option.bind_some, ai_ hS hf]; rfl)
  (lx_ (P := P) (vm := md) (X := X) (σ := σ) hv hXf k1 k2 k3 k4 (by rw [k5]; exact Nat.le_of_ble_eq_true hlen) m1 hx (by rw [resA, k6, q1]; rfl)) ?_
 rw [bT_]
 exact k _ _ (q2 _ (a0_ hS d _ σ))
end
abbrev nt (α : Type) [Enc α] : T := Sl.t (⟨true, []⟩ : Sl α)
section
variable {z : Bool} {ts vs : List T} {es : List Ent}
theorem HLi {k : IntKind} {n : Int} (r : HL z ts vs es) : HL z (.int k n :: ts) (.int k n :: vs) es := HL.leaf (fun σ d => mb_ _ σ d _ _) r
theorem HLb {n : Bool} (r : HL z ts vs es) : HL z (.bool n :: ts) (.bool n :: vs) es := HL.leaf (fun σ d => oI_ _ σ d _) r
theorem HLs {n : ByteArray} (r : HL z ts vs es) : HL z (.str n :: ts) (.str n :: vs) es := HL.leaf (fun σ d => o7_ _ σ d _) r
theorem HLn {α : Type} [Enc α] (r : HL z ts vs es) : HL z (Sl.t (⟨true, []⟩ : Sl α) :: ts) (Sl.t (⟨true, []⟩ : Sl α) :: vs) es := HL.leaf (fun σ d => on_ _ σ d) r
theorem HLp {α : Type} [Enc α] {a : Sl α} (r : HL false ts vs es) : HL false (a.t :: ts) (a.t :: vs) es := HL.leaf (fun σ d => nI_ σ d _) r
end
abbrev i4 (n : Int) : T := .int .i64 n
section
variable {P : Program} {O : aM_} {ops : Array Oper} {m : Mo} {l : List Oper} {K : Fr → Prop} {s : Nat → T} {σ σ0 : St} {L : List (Nat × T)} {es : List Ent}
variable {d : Option Nat} {ty : TypeId} {ps : String} {af : Array Edge} {g : Option (Nat × Bool)}
theorem qs (n : Nat) (L' : List (Nat × T)) (hS : Sub L s) (k : ∀ s', Sub L' s' → opsX P O ops (nxN n m) (l.drop n) K ⟨s', σ⟩) (h : ((seg P ops n l L).map fun M => L'.map fun p => get M p.1) = some (L'.map fun p => some p.2) := by kernel_rfl) : opsX P O ops m l K ⟨s, σ⟩ := uO_ n L' hS h k
end
end Go.Am
end
section
set_option linter.unusedVariables false
set_option linter.unusedSimpArgs false
namespace Go.Am
section
variable {P : Program} {O : aM_} {ops : Array Oper} {m : Mo} {l : List Oper} {K : Fr → Prop} {s : Nat → T} {σ σ0 : St} {L : List (Nat × T)} {es ents : List Ent}
variable {d : Option Nat} {ty : TypeId} {ps : String} {af : Array Edge} {g : Option (Nat × Bool)}
theorem Heap.fltOne {w : Nat} {t v : T} (h : Heap σ0 σ (.flt w t v :: es)) : ar_ t := by
 obtain ⟨S, h1, _⟩ := h.head
 rcases h1 with ⟨rfl, _⟩ | ⟨rfl, _⟩ | ⟨b, B, n, rfl, _⟩ <;> exact ⟨rfl, rfl⟩
theorem ei_ {α : Type} [Enc α] {t1 : T} {a : Sl α} {w : Nat} (h : Heap σ0 σ (.flt w t1 a.t :: es)) :
  (t1 = .row true 0 [] ∧ a = ⟨true, []⟩) ∨ (t1 = .emp ∧ a = ⟨false, []⟩) ∨ ∃ b B, t1 = .ref b B.ep 0 a.l.length ∧ a.z = false ∧ σ.blk b = some B ∧ B.st = true ∧ B.low ≤ B.ep ∧ B.esz = w ∧ w ≠ 0 ∧ a.l.length * w ≤ B.cells.length ∧ B.cells.take (a.l.length * w) = am_ a.l := by
 obtain ⟨S, h1, _⟩ := h.head
 obtain ⟨z, l⟩ := a
 rcases h1 with ⟨rfl, hv, _⟩ | ⟨rfl, hv, _⟩ | ⟨b, B, n, rfl, hv, _, h3, h4, h5, h6, h7, h8⟩
 ·have hv : T.row z l.length (am_ l) = .row true 0 [] := hv
  injection hv with e1 e2 e3
  exact .inl ⟨rfl, by rw [e1, List.length_eq_zero_iff.1 e2]⟩
 ·have hv : T.row z l.length (am_ l) = .row false 0 [] := hv
  injection hv with e1 e2 e3
  exact .inr (.inl ⟨rfl, by rw [e1, List.length_eq_zero_iff.1 e2]⟩)
 ·have hv : T.row z l.length (am_ l) = .row false n (B.cells.take (n * w)) := hv
  injection hv with e1 e2 e3
  subst e2
  exact .inr (.inr ⟨b, B, rfl, e1, h3, h4, h5, h6, h7, h8, e3.symm⟩)
theorem ny_ {α : Type} [Enc α] {σ' : St} {b n : Nat} {B : Blk} {c : Sl α} (hz : c.z = false) (hn : n = c.l.length) (hB : σ'.blk b = some B) (h1 : B.st = true) (h2 : B.low ≤ B.ep) (h3 : B.esz = Enc.w α) (h4 : Enc.w α ≠ 0) (h5 : B.cells.take (n * Enc.w α) = am_ c.l) : lE_ σ' (.flt (Enc.w α) (.ref b B.ep 0 n) c.t) [b] := by
 refine .inr (.inr ⟨b, B, n, rfl, ?_, rfl, hB, h1, h2, h3, h4, ?_⟩)
 ·show T.row c.z c.l.length (am_ c.l) = _
  rw [hz, ← hn, h5]
 ·have := congrArg List.length h5
  rw [cellsL_len, List.length_take, ← hn] at this; omega
theorem Heap.toFltN {z : Bool} {w : Nat} {t : T} (w2 : Nat) (h : Heap σ0 σ (.own z w t (.row true 0 []) :: es)) : Heap σ0 σ (.flt w2 t (.row true 0 []) :: es) :=
 Heap.step (es1 := [.own z w t (.row true 0 [])]) (es2 := [.flt w2 t (.row true 0 [])]) (es := es) h (Nat.le_refl _) fun S hS hnd hbd => by
  obtain ⟨S1, F1, rfl, ⟨h1, _, k, h2⟩, hnil⟩ := hS
  cases hnil
  rcases cP_ h1 h2 with ⟨rfl, hz, _, _, rfl⟩ | ⟨rfl, hz, _⟩ | ⟨hz, x, B, S', k', rfl, hB, _⟩
  ·exact ⟨[], ⟨[], [], rfl, .inl ⟨rfl, rfl, rfl⟩, rfl⟩, by simp, by simp, fun _ _ _ => rfl⟩
  ·cases hz
  ·cases hz
theorem sD_ (hm : m.chg = true) (hmb : m.base σ0) {t e len sz : Nat} {parts : Array (Nat × Operand)} {vs zc cs : List T} {v : T} (hw : want ops L g = some true) (hS : Sub L s) (hH : Heap σ0 σ es) (hg : gPs (get L) parts.toList = some (enumV 0 vs))
  (he : av_ P t = some e) (hz : szOf P e = some sz) (hzz : aZ_ P e = some zc) (hl : (Nat.beq zc.length sz && Nat.beq vs.length len && Nat.ble (len * sz) 16777216 && !Nat.beq sz 0 && !Nat.beq len 0) = true) (hv : allV sz vs)
  (hc : vs.flatMap T.cells = cs) (hr : T.row false len cs = v)
  (kk : ∀ t' σ' s', ar_ t' → Heap σ0 σ' (.flt sz t' v :: es) → Sub (putL L d t') s' → opsX P O ops (nxM m) l K ⟨s', σ'⟩) : opsX P O ops m (⟨d, .buildSlice t len parts, ty, ps, af, g⟩ :: l) K ⟨s, σ⟩ := by
 simp only [Bool.and_eq_true, Bool.not_eq_true'] at hl
 obtain ⟨⟨⟨⟨l1, l2⟩, l3⟩, l4⟩, l5⟩ := hl
 have l1 := Nat.eq_of_beq_eq_true l1; have l2 := Nat.eq_of_beq_eq_true l2; have l3 := Nat.le_of_ble_eq_true l3; have l4 := Nat.ne_of_beq_eq_false l4; have l5 := Nat.ne_of_beq_eq_false l5
 subst hr
 have hlen : cs.length = len * sz := by rw [← hc, ← l2]; exact jB_ vs hv
 refine gY_ hm rfl (aJ_ hS hw) fun k hk hi => ⟨T.ref (σ.nid k) 0 0 len, σ.pushK k (aP_ cs sz), ?_, Cg.push hk, ?_⟩
 ·rw [fT_, he, Option.bind_some, hz, Option.bind_some, hzz, Option.bind_some, fN_ hS hg, Option.bind_some, iE_, if_pos ⟨l1, l3, l4, hk⟩]
  have := h4_ zc l1 vs [] 0 (by simp) hv
  simp only [List.nil_append, l2, hc] at this
  rw [this, if_neg l5]; rfl
 ·rw [bT_]
  refine kk _ _ _ ⟨rfl, rfl⟩ ?_ (a0_ hS d _ σ)
  have hbk := Mo.inb_base hi hmb
  have h0 : σ0.next ≤ σ.nid k := by
   cases k with
   | none => exact hH.grow.nx
   | some i => exact hbk i rfl
  have hf := f9_ hk
  refine Heap.stepN (es1 := []) (es2 := [.flt sz (.ref (σ.nid k) 0 0 len) (.row false len cs)]) (es := es) hH d3_ (fun b hb' => by rw [bo_, if_neg (by omega)]) fun S hS hn hb => ?_
  have hself : (σ.pushK k (aP_ cs sz)).blk (σ.nid k) = some (aP_ cs sz) := by rw [bo_, if_pos rfl]
  refine ⟨[σ.nid k], ⟨[σ.nid k], [], rfl, .inr (.inr ⟨σ.nid k, aP_ cs sz, len, rfl, ?_, rfl, hself, rfl, Nat.le_refl _, rfl, l4, ?_⟩), rfl⟩, by simp, fun b hb' => ?_, fun b hb' hs' _ => en_ hk hs' hb'⟩
  ·rw [du_, List.take_of_length_le (by omega)]
  ·rw [du_, hlen]; exact Nat.le_refl _
  ·simp at hb'; subst hb'
   exact .inr ⟨h0, ij_ hk, hf.imp id fun h => h.1⟩
theorem dx_ {α : Type} [Enc α] {t2 : TypeId} {ty1 : T} {b : Sl α} (hH : Heap σ0 σ (.flt (Enc.w α) ty1 b.t :: es)) (hk : aH_ P t2 = 4) : ep_ σ (Enc.w α) ty1 = some (b.l.length, am_ b.l) ∧ ex_ P t2 ty1 = true := by
 rcases ei_ hH with ⟨rfl, rfl⟩ | ⟨rfl, rfl⟩ | ⟨x, B, rfl, hz, hB, c1, c2, c3, c4, c5, c6⟩
 ·exact ⟨by simp [ep_, cellsOf, am_], by simp [ex_, T.isStr, hk]⟩
 ·exact ⟨by simp [ep_, cellsOf, am_], by simp [ex_, T.isStr, hk]⟩
 ·refine ⟨?_, by simp [ex_, T.isStr, hk]⟩
  simp only [ep_, cellsOf, hB, Option.bind_some, if_pos c2, List.drop_zero, c3, c6, cellsL_len, if_true]
theorem qc_ {α : Type} [Enc α] {t1 ty1 : T} {a b c : Sl α} {t t2 e by_ : Nat} {zc : List T} {kx : Option Nat} (hkx : σ.okK kx = true) (hbk : ∀ i, kx = some i → σ0.next ≤ i) (hH : Heap σ0 σ (.flt (Enc.w α) t1 a.t :: es))
  (he : av_ P t = some e) (hz : szOf P e = some (Enc.w α)) (hby : bY_ P e = some by_) (hzz : aZ_ P e = some zc)
  (hcl : (!b0_ P t2 && Nat.beq zc.length (Enc.w α) && !Nat.beq (Enc.w α) 0 && !Nat.beq by_ 0 && Nat.ble by_ 1048576) = true) (hnews : ep_ σ (Enc.w α) ty1 = some (b.l.length, am_ b.l)) (hsrc : ex_ P t2 ty1 = true) (hc : appS by_ a b = some c) :
  ∃ t' σ', a7_ P kx σ t t2 t1 ty1 = some (t', σ') ∧ ar_ t' ∧ Heap σ0 σ' (.flt (Enc.w α) t' c.t :: es) ∧ σ.next ≤ σ'.next ∧ ∀ x, x < σ.next → kx ≠ some x → σ'.blk x = σ.blk x ∨ ((∃ e o n, t1 = .ref x e o n) ∧ (σ.blk x).isSome = true) := by
 simp only [Bool.and_eq_true, Bool.not_eq_true'] at hcl
 obtain ⟨⟨⟨⟨c1, c2⟩, c3⟩, c4⟩, c5⟩ := hcl
 have c2 := Nat.eq_of_beq_eq_true c2; have c3 := Nat.ne_of_beq_eq_false c3; have c4 := Nat.ne_of_beq_eq_false c4; have c5 := Nat.le_of_ble_eq_true c5
 have happ : a7_ P kx σ t t2 t1 ty1 = match t1 with
   | .row true 0 [] => if b.l.length = 0 then some (t1, σ) else if b.l.length * by_ ≤ 2 ^ 40 ∧ σ.okK kx = true then some (.ref (σ.nid kx) 0 0 b.l.length, σ.pushK kx (aP_ (am_ b.l) (Enc.w α))) else none
   | .emp => if b.l.length = 0 then some (t1, σ) else if b.l.length * by_ ≤ 2 ^ 40 ∧ σ.okK kx = true then some (.ref (σ.nid kx) 0 0 b.l.length, σ.pushK kx (aP_ (am_ b.l) (Enc.w α))) else none
   | .row false n cs => if b.l.length = 0 then some (t1, σ) else none
   | .ref x ep off n => (σ.blk x).bind fun B =>
     if b.l.length = 0 then (if B.esz = Enc.w α ∧ B.low ≤ ep then some (t1, σ) else none)
     else if off = 0 ∧ ep = B.ep ∧ B.esz = Enc.w α ∧ B.cells.length = n * Enc.w α ∧ (n + b.l.length) * by_ ≤ 2 ^ 40 then
      some (.ref x (ep + 1) 0 (n + b.l.length), σ.set x { B with cells := B.cells ++ am_ b.l, ep := ep + 1, ver := B.ver + 1 })
     else if off = 0 ∧ ep = B.ep ∧ B.esz = Enc.w α ∧ n * Enc.w α ≤ B.cells.length ∧ B.st = true ∧ (n + b.l.length) * by_ ≤ 2 ^ 40 then
      some (.ref x (ep + 2) 0 (n + b.l.length), σ.set x { B with cells := B.cells.take (n * Enc.w α) ++ am_ b.l, ep := ep + 2, low := ep + 1, ver := B.ver + 2 })
     else none
   | _ => none := by
  unfold a7_
  rw [he, Option.bind_some, hz, Option.bind_some, hby, Option.bind_some, hzz, Option.bind_some, c1, if_neg (by simp), if_neg (by omega), hnews, Option.bind_some]
  simp only
  rw [if_neg (by simp [cellsL_one, hsrc])]
  cases t1 with
  | row z n cs => cases z <;> cases n <;> cases cs <;> rfl
  | _ => rfl
 have hnil : b.l = [] → c = a := fun h => by unfold appS at hc; rw [h] at hc; injection hc with hc; exact hc.symm
 have hone := hH.fltOne
 have fresh : b.l ≠ [] → a.l = [] → b.l.length * by_ ≤ 2 ^ 40 ∧ ∃ t' σ', some (T.ref (σ.nid kx) 0 0 b.l.length, σ.pushK kx (aP_ (am_ b.l) (Enc.w α))) = some (t', σ') ∧ ar_ t' ∧ Heap σ0 σ' (.flt (Enc.w α) t' c.t :: es) ∧ σ.next ≤ σ'.next ∧ ∀ x, x < σ.next → kx ≠ some x → σ'.blk x = σ.blk x ∨ ((∃ e o n, t1 = .ref x e o n) ∧ (σ.blk x).isSome = true) := fun hb ha => by
  rcases gP_ hc with ⟨h, _⟩ | ⟨_, hlim, rfl⟩
  ·exact absurd h hb
  have h0 : σ0.next ≤ σ.nid kx := by
   cases kx with
   | none => exact hH.grow.nx
   | some i => exact hbk i rfl
  have hf := f9_ hkx
  have hcg : Cg .q kx σ (σ.pushK kx (aP_ (am_ b.l) (Enc.w α))) := Cg.push hkx
  refine ⟨by rw [ha] at hlim; simpa using hlim, _, _, rfl, ⟨rfl, rfl⟩, ?_, hcg.1, fun x hx hne => ?_⟩
  ·refine Heap.stepN (es1 := [.flt (Enc.w α) t1 a.t]) (es2 := [.flt (Enc.w α) (.ref (σ.nid kx) 0 0 b.l.length) (Sl.t ⟨false, a.l ++ b.l⟩)]) (es := es) hH d3_ (fun b hb' => by rw [bo_, if_neg (by omega)]) fun S hS hn hb => ?_
   have hself : (σ.pushK kx (aP_ (am_ b.l) (Enc.w α))).blk (σ.nid kx) = some (aP_ (am_ b.l) (Enc.w α)) := by rw [bo_, if_pos rfl]
   refine ⟨[σ.nid kx], ⟨[σ.nid kx], [], rfl, ny_ rfl (by simp [ha]) hself rfl (Nat.le_refl _) rfl c3 ?_, rfl⟩, by simp, fun b hb' => ?_, fun b hb' hs' _ => en_ hkx hs' hb'⟩
   ·rw [du_, ha, List.nil_append, List.take_of_length_le (by rw [cellsL_len]; exact Nat.le_refl _)]
   ·simp at hb'; subst hb'
    exact .inr ⟨h0, ij_ hkx, hf.imp id fun h => h.1⟩
  ·rcases hcg.2 x hx hne with h | h
   ·exact .inl h
   ·left; rw [bo_, if_neg]
    rintro rfl
    cases kx with
    | none => simp [St.nid] at hx
    | some i => exact hne rfl
 rcases ei_ hH with ⟨rfl, rfl⟩ | ⟨rfl, rfl⟩ | ⟨x, B, rfl, hz, hB, d1, d2, d3, d4, d5, d6⟩
 ·rw [happ]
  by_cases hb : b.l = []
  ·rw [hnil hb, hb]; exact ⟨_, _, rfl, hone, hH, Nat.le_refl _, fun _ _ _ => .inl rfl⟩
  ·obtain ⟨f1, f2⟩ := fresh hb rfl
   show ∃ t' σ', (if b.l.length = 0 then _ else _) = _ ∧ _
   rw [if_neg (fun h => hb (List.length_eq_zero_iff.1 h)), if_pos ⟨f1, hkx⟩]; exact f2
 ·rw [happ]
  by_cases hb : b.l = []
  ·rw [hnil hb, hb]; exact ⟨_, _, rfl, hone, hH, Nat.le_refl _, fun _ _ _ => .inl rfl⟩
  ·obtain ⟨f1, f2⟩ := fresh hb rfl
   show ∃ t' σ', (if b.l.length = 0 then _ else _) = _ ∧ _
   rw [if_neg (fun h => hb (List.length_eq_zero_iff.1 h)), if_pos ⟨f1, hkx⟩]; exact f2
 ·rw [happ]
  simp only [hB, Option.bind_some]
  by_cases hb : b.l = []
  ·rw [hnil hb, hb]
   rw [if_pos List.length_nil, if_pos ⟨d3, d2⟩]
   exact ⟨_, _, rfl, hone, hH, Nat.le_refl _, fun _ _ _ => .inl rfl⟩
  ·have hb0 : b.l.length ≠ 0 := fun h => hb (List.length_eq_zero_iff.1 h)
   rcases gP_ hc with ⟨h, _⟩ | ⟨_, hlim, rfl⟩
   ·exact absurd h hb
   rw [if_neg hb0]
   have fin : ∀ B' : Blk, B'.cells = am_ a.l ++ am_ b.l → B'.esz = B.esz → B'.low ≤ B'.ep → B'.st = true → Heap σ0 (σ.set x B') (.flt (Enc.w α) (.ref x B'.ep 0 (a.l.length + b.l.length)) (Sl.t (⟨false, a.l ++ b.l⟩ : Sl α)) :: es) := fun B' q1 q2 q3 q4 => by
    refine Heap.step (es1 := [.flt (Enc.w α) (.ref x B.ep 0 a.l.length) a.t]) (es2 := [.flt (Enc.w α) (.ref x B'.ep 0 (a.l.length + b.l.length)) (Sl.t (⟨false, a.l ++ b.l⟩ : Sl α))]) (es := es) hH (by simp) fun S hS hnd hbd => ?_
    obtain ⟨S1, F1, rfl, h2, hnil⟩ := hS
    cases hnil
    have hx1 : S1 = [x] := by
     rcases h2 with ⟨h, _⟩ | ⟨h, _⟩ | ⟨b2, B2, n2, h2, _, rfl, _⟩
     ·cases h
     ·cases h
     ·injection h2 with h2 _; rw [h2]
    subst hx1
    refine ⟨[x], ⟨[x], [], rfl, ny_ rfl (by simp) (by rw [bO_]) q4 q3 (by rw [q2, d3]) c3 ?_, rfl⟩, by simp, fun b hb => .inl (by simpa using hb), fun y hy hm => by rw [ct_, if_neg (fun e => hm (by simp [e]))]⟩
    rw [q1, ← cellsL_append, List.take_of_length_le (by rw [cellsL_len, List.length_append]; exact Nat.le_refl _)]
   have hch : ∀ B' : Blk, ∀ y, y < σ.next → kx ≠ some y → (σ.set x B').blk y = σ.blk y ∨ ((∃ e o n, T.ref x B.ep 0 a.l.length = .ref y e o n) ∧ (σ.blk y).isSome = true) := fun B' y _ _ => by
    rw [ct_]; split
    ·rename_i e; subst e; exact .inr ⟨⟨_, _, _, rfl⟩, by rw [hB]; rfl⟩
    ·exact .inl rfl
   by_cases hcl : B.cells.length = a.l.length * Enc.w α
   ·rw [if_pos ⟨trivial, trivial, d3, hcl, hlim⟩]
    have hcs : B.cells = am_ a.l := by rw [← d6, List.take_of_length_le (by omega)]
    exact ⟨_, _, rfl, ⟨rfl, rfl⟩, fin { B with cells := B.cells ++ am_ b.l, ep := B.ep + 1, ver := B.ver + 1 } (by simp only [hcs]) rfl (Nat.le_succ_of_le d2) d1, Nat.le_refl _, hch _⟩
   ·rw [if_neg fun h => hcl h.2.2.2.1, if_pos ⟨trivial, trivial, d3, d5, d1, hlim⟩]
    exact ⟨_, _, rfl, ⟨rfl, rfl⟩, fin { B with cells := B.cells.take (a.l.length * Enc.w α) ++ am_ b.l, ep := B.ep + 2, low := B.ep + 1, ver := B.ver + 2 } (by simp only [d6]) rfl (by simp) d1, Nat.le_refl _, hch _⟩
theorem qj_ (hm : m.chg = true) (hmb : m.base σ0) {α : Type} [Enc α] {x y : Operand} {t1 ty1 : T} {a b c : Sl α} {t t2 e by_ : Nat} {zc : List T} (hwr : ∀ b e o n, t1 = .ref b e o n → m.wr b) (hw : want ops L g = some true) (hS : Sub L s) (hH : Heap σ0 σ (.flt (Enc.w α) t1 a.t :: es))
  (hn : ep_ σ (Enc.w α) ty1 = some (b.l.length, am_ b.l) ∧ ex_ P t2 ty1 = true)
  (hx : gE (get L) x = some t1) (hy : gE (get L) y = some ty1) (he : av_ P t = some e) (hz : szOf P e = some (Enc.w α)) (hby : bY_ P e = some by_) (hzz : aZ_ P e = some zc)
  (hcl : (!b0_ P t2 && Nat.beq zc.length (Enc.w α) && !Nat.beq (Enc.w α) 0 && !Nat.beq by_ 0 && Nat.ble by_ 1048576) = true) (hc : appS by_ a b = some c)
  (kk : ∀ t' σ' s', ar_ t' → Heap σ0 σ' (.flt (Enc.w α) t' c.t :: es) → Sub (putL L d t') s' → opsX P O ops (nxM m) l K ⟨s', σ'⟩) : opsX P O ops m (⟨d, .call ⟨.builtin .append, #[x, y], #[t, t2]⟩, ty, ps, af, g⟩ :: l) K ⟨s, σ⟩ := by
 refine gY_ hm rfl (aJ_ hS hw) fun kx hkx hi => ?_
 obtain ⟨t', σ', k1, k2, k3, k4, k5⟩ := qc_ hkx (Mo.inb_base hi hmb) hH he hz hby hzz hcl hn.1 hn.2 hc
 refine ⟨t', σ', ?_, ⟨k4, fun x hx hne => (k5 x hx hne).imp id fun h => ⟨by obtain ⟨⟨e, o, n, h1⟩, _⟩ := h; exact hwr x e o n h1, h.2⟩⟩, ?_⟩
 ·have ev : bA_ s [x, y] = some [t1, ty1] := by simp only [bA_, ai_ hS hx, ai_ hS hy, Option.bind_some, Option.map_some]
  show ((bA_ s [x, y]).bind fun args => match args, [t, t2] with | [x, y], [t, t2] => (a7_ P kx σ t t2 x y).map fun (x, σ) => ARes.val x σ | _, _ => none) = _
  rw [ev, Option.bind_some]
  show (a7_ P kx σ t t2 _ _).map _ = _
  rw [k1]; rfl
 ·rw [bT_]; exact kk _ _ _ k2 k3 (a0_ hS d _ σ)
theorem qJ_ (hm : m.chg = true) (hmb : m.base σ0) {α : Type} [Enc α] {z : Bool} [Hld z α] {x y : Operand} {t1 ty1 : T} {a b c : Sl α} {t t2 e by_ : Nat} {zc : List T} (hwr : ∀ b e o n, t1 = .ref b e o n → m.wr b) (hw : want ops L g = some true) (hS : Sub L s) (hH : Heap σ0 σ (.own z (Enc.w α) t1 a.t :: es))
  (hn : ep_ σ (Enc.w α) ty1 = some (b.l.length, am_ b.l) ∧ ex_ P t2 ty1 = true)
  (hx : gE (get L) x = some t1) (hy : gE (get L) y = some ty1) (he : av_ P t = some e) (hz : szOf P e = some (Enc.w α)) (hby : bY_ P e = some by_) (hzz : aZ_ P e = some zc)
  (hcl : (!b0_ P t2 && Nat.beq zc.length (Enc.w α) && !Nat.beq (Enc.w α) 0 && !Nat.beq by_ 0 && Nat.ble by_ 1048576) = true) (hc : appS by_ a b = some c)
  (kk : ∀ t' σ' s', ar_ t' → Heap σ0 σ' (.own z (Enc.w α) t' c.t :: es) → Sub (putL L d t') s' → opsX P O ops (nxM m) l K ⟨s', σ'⟩) : opsX P O ops m (⟨d, .call ⟨.builtin .append, #[x, y], #[t, t2]⟩, ty, ps, af, g⟩ :: l) K ⟨s, σ⟩ := by
 refine gY_ hm rfl (aJ_ hS hw) fun kx hkx hi => ?_
 obtain ⟨t', σ', k1, k2, k3, k4, k5⟩ := ly_ hkx (Mo.inb_base hi hmb) (ents := []) hH hc he hz hby hzz hcl hn.1 hn.2 (cellsL_one b.l) (cellsL_len b.l) (fun S σ' _ _ _ => ⟨[], 0, by simp, by simp, Hld.list σ' 0 b.l⟩)
 refine ⟨t', σ', ?_, ⟨k4, fun x hx hne => (k5 x hx hne).imp id fun h => ⟨by obtain ⟨⟨e, o, n, h1⟩, _⟩ := h; exact hwr x e o n h1, h.2⟩⟩, ?_⟩
 ·have ev : bA_ s [x, y] = some [t1, ty1] := by simp only [bA_, ai_ hS hx, ai_ hS hy, Option.bind_some, Option.map_some]
  show ((bA_ s [x, y]).bind fun args => match args, [t, t2] with | [x, y], [t, t2] => (a7_ P kx σ t t2 x y).map fun (x, σ) => ARes.val x σ | _, _ => none) = _
  rw [ev, Option.bind_some]
  show (a7_ P kx σ t t2 _ _).map _ = _
  rw [k1]; rfl
 ·rw [bT_]; exact kk _ _ _ k2 k3 (a0_ hS d _ σ)
def cutS {α : Type} (a : Sl α) (h : Int) : Option (Sl α) := if 0 ≤ h ∧ h ≤ a.l.length ∧ a.l.length ≠ 0 then some ⟨false, a.l.take h.toNat⟩ else none
theorem se_ {α : Type} [Enc α] {x hi : Operand} {t e : TypeId} {t1 : T} {a c : Sl α} {kk : IntKind} {j : Int} (hm : ∀ b e o n, t1 = .ref b e o n → m.lt b) (hw : want ops L g = some true) (hS : Sub L s) (hH : Heap σ0 σ (.flt (Enc.w α) t1 a.t :: es)) (hx : gE (get L) x = some t1) (hhi : gE (get L) hi = some (.int kk j))
  (he : av_ P t = some e) (hz : szOf P e = some (Enc.w α)) (hc : cutS a j = some c)
  (k : ∀ t' s', ar_ t' → Heap σ0 σ (.flt (Enc.w α) t' c.t :: es) → Sub (putL L d t') s' → opsX P O ops (nxM m) l K ⟨s', σ⟩) : opsX P O ops m (⟨d, .slice t x none (some hi) none, ty, ps, af, g⟩ :: l) K ⟨s, σ⟩ := by
 unfold cutS at hc
 split at hc
 ·rename_i hh
  injection hc with hc; subst hc
  rcases ei_ hH with ⟨rfl, rfl⟩ | ⟨rfl, rfl⟩ | ⟨b, B, rfl, hz2, hB, d1, d2, d3, d4, d5, d6⟩
  ·exact absurd rfl hh.2.2
  ·exact absurd rfl hh.2.2
  ·have hj : j.toNat ≤ a.l.length := by omega
   refine dc_ hw hS (v := .ref b B.ep 0 j.toNat) (fun kk' σ' ha' => ?_) (fun s' hs' => k _ s' ⟨rfl, rfl⟩ ?_ hs')
   ·rw [j7_, ai_ hS hx, Option.bind_some, eL_, Option.bind_some]
    show ((Option.map some (evalO s hi)).bind _) = _
    rw [ai_ hS hhi, Option.map_some, Option.bind_some, Option.bind_some, j6_]
    simp only [okO, Bool.and_self, if_true, i3_, he, hz, Mo.al_blk ha' (hm _ _ _ _ rfl), hB, Option.bind_some, boundA, if_pos hh.1]
    rw [if_pos ⟨by omega, hj, d3, d2, d4⟩]; simp
   ·refine Heap.step (es1 := [.flt (Enc.w α) (.ref b B.ep 0 a.l.length) a.t]) (es2 := [.flt (Enc.w α) (.ref b B.ep 0 j.toNat) (Sl.t (⟨false, a.l.take j.toNat⟩ : Sl α))]) (es := es) hH (Nat.le_refl _) fun S hS hnd hbd => ?_
    obtain ⟨S1, F1, rfl, h2, hnil⟩ := hS
    cases hnil
    have hx1 : S1 = [b] := by
     rcases h2 with ⟨h, _⟩ | ⟨h, _⟩ | ⟨b2, B2, n2, h2, _, rfl, _⟩
     ·cases h
     ·cases h
     ·injection h2 with h2 _; rw [h2]
    subst hx1
    refine ⟨[b], ⟨[b], [], rfl, ny_ rfl (by simp; omega) hB d1 d2 d3 d4 ?_, rfl⟩, by simp, fun b hb => .inl (by simpa using hb), fun y hy hm => rfl⟩
    rw [← cellsL_take, ← d6, List.take_take, Nat.min_eq_left (Nat.mul_le_mul_right _ hj)]
 ·cases hc
theorem r1_ {α : Type} [Enc α] {x : Operand} {w : Nat} {t1 : T} {a : Sl α} {t : TypeId} (hw : want ops L g = some true) (hS : Sub L s) (hH : Heap σ0 σ (.flt w t1 a.t :: es)) (hx : gE (get L) x = some t1) (hk : aH_ P t = 4)
  (kk : ∀ s', Sub (putL L d (.int .i64 a.l.length)) s' → opsX P O ops (nxM m) l K ⟨s', σ⟩) : opsX P O ops m (⟨d, .call ⟨.builtin .len, #[x], #[t]⟩, ty, ps, af, g⟩ :: l) K ⟨s, σ⟩ := by
 have hl : lenA P σ t t1 = some (.int .i64 a.l.length) := by
  rcases ei_ hH with ⟨rfl, rfl⟩ | ⟨rfl, rfl⟩ | ⟨b, B, rfl, _⟩ <;> simp [hk]
 refine dc_ hw hS (fun kk σ' _ => ?_) kk
 have ev : bA_ s [x] = some [t1] := by simp only [bA_, ai_ hS hx, Option.bind_some, Option.map_some]
 rw [qp_]
 show (bA_ s [x]).bind _ = _
 rw [ev, Option.bind_some, le_, lv_ P σ' σ, hl]; rfl
theorem s7_ {α : Type} [Enc α] {x i : Operand} {t e : TypeId} {t1 : T} {a : Sl α} {kk : IntKind} {j : Int} {y : α} (hm : ∀ b e o n, t1 = .ref b e o n → m.lt b) (hw : want ops L g = some true) (hS : Sub L s) (hH : Heap σ0 σ (.flt (Enc.w α) t1 a.t :: es)) (hx : gE (get L) x = some t1) (hi : gE (get L) i = some (.int kk j))
  (he : av_ P t = some e) (hz : szOf P e = some (Enc.w α)) (hy : elt a j = some y)
  (k : ∀ b ep s', t1 = .ref b ep 0 a.l.length → Sub (putL L d (.ptr b ep (j.toNat * Enc.w α) (Enc.w α))) s' → opsX P O ops (nxM m) l K ⟨s', σ⟩) : opsX P O ops m (⟨d, .indexAddr t x i, ty, ps, af, g⟩ :: l) K ⟨s, σ⟩ := by
 obtain ⟨q1, q2, q3⟩ := d5_ hy
 rcases ei_ hH with ⟨rfl, rfl⟩ | ⟨rfl, rfl⟩ | ⟨b, B, rfl, hz2, hB, d1, d2, d3, d4, d5, d6⟩
 ·simp at q3
 ·simp at q3
 ·refine dc_ hw hS (fun kk σ' ha' => ?_) (fun s' => k b B.ep s' rfl)
  rw [gt_, ai_ hS hx, Option.bind_some, ai_ hS hi, Option.bind_some, pR_, he, Option.bind_some, hz, Option.bind_some, Mo.al_blk ha' (hm _ _ _ _ rfl), hB, Option.bind_some, if_pos ⟨q1, q2, d3⟩, Nat.zero_add]; rfl
theorem qu_ {α : Type} [Enc α] {ad : Operand} {t : TypeId} {t1 : T} {a : Sl α} {j : Int} {y : α} {b ep off n : Nat} {c : List T} {v : T} (hm : ∀ b e o n, t1 = .ref b e o n → m.lt b) (hw : want ops L g = some true) (hS : Sub L s) (hH : Heap σ0 σ (.flt (Enc.w α) t1 a.t :: es)) (hr : t1 = .ref b ep 0 a.l.length)
  (ha : gE (get L) ad = some (.ptr b ep (j.toNat * Enc.w α + off) n)) (hy : elt a j = some y) (hc : Enc.cells y = c) (hn : Nat.ble (off + n) (Enc.w α) = true) (hv : part P t ((c.drop off).take n) 0 = some v)
  (k : ∀ s', Sub (putL L d v) s' → opsX P O ops (nxM m) l K ⟨s', σ⟩) : opsX P O ops m (⟨d, .load t ad, ty, ps, af, g⟩ :: l) K ⟨s, σ⟩ := by
 obtain ⟨q1, q2, q3⟩ := d5_ hy
 have hn := Nat.le_of_ble_eq_true hn
 rcases ei_ hH with ⟨rfl, rfl⟩ | ⟨rfl, rfl⟩ | ⟨b', B, rfl, hz2, hB, d1, d2, d3, d4, d5, d6⟩
 ·cases hr
 ·cases hr
 ·injection hr with e1 e2 _ _
  subst e1; subst e2
  refine dc_ hw hS (fun kk σ' ha' => ?_) k
  have hcl : c.length = Enc.w α := by rw [← hc, Enc.len]
  have hj : (j.toNat + 1) * Enc.w α ≤ a.l.length * Enc.w α := Nat.mul_le_mul_right _ (by omega)
  have hcell : (B.cells.drop (j.toNat * Enc.w α + off)).take n = (c.drop off).take n := by
   have h1 : ((B.cells.take (a.l.length * Enc.w α)).drop (j.toNat * Enc.w α + off)).take n = (c.drop off).take n := by
    rw [d6, ← List.drop_drop, es_ a.l j.toNat y q3, hc, List.drop_append_of_le_length (by omega), List.take_append_of_le_length (by simp; omega)]
   rw [← h1, List.drop_take, List.take_take, Nat.min_eq_left (by rw [Nat.succ_mul] at hj; omega)]
  rw [hv_, ai_ hS ha, Option.bind_some, em_, Mo.al_blk ha' (hm _ _ _ _ rfl), hB, Option.bind_some, if_pos d2, hcell, hv]; rfl
end
end Go.Am
end
section
set_option linter.unusedVariables false
set_option linter.unusedSimpArgs false
namespace Go.Am
open Classical
def Kb (F : List Nat) (σk : St) (x : Nat) (c : List T) : Prop := x ∈ F ∧ ∃ B, σk.blk x = some B ∧ B.cells = c ∧ B.ep = 0 ∧ B.low = 0
def KLe (F : List Nat) (σ : St) (F2 : List Nat) (σ2 : St) : Prop := F.Nodup ∧ ∀ b ∈ F, b ∈ F2 ∧ σ2.blk b = σ.blk b
theorem Kb.mono {F F2 : List Nat} {σ σ2 : St} {x : Nat} {c : List T} (h : Kb F σ x c) (k : KLe F σ F2 σ2) : Kb F2 σ2 x c := by
 obtain ⟨h1, B, h2, h3⟩ := h
 obtain ⟨k1, k2⟩ := k.2 x h1
 exact ⟨k1, B, by rw [k2, h2], h3⟩
theorem cY_.memE {σ : St} : ∀ {es : List Ent} {F : List Nat} {e : Ent}, cY_ σ es F → e ∈ es → ∃ S, lE_ σ e S ∧ S.Sublist F
 | [], F, e, h, he => by cases he
 | e' :: es, F, e, h, he => by
  obtain ⟨S, F', rfl, h1, h2⟩ := h
  rcases List.mem_cons.1 he with rfl | he
  ·exact ⟨S, h1, List.sublist_append_left _ _⟩
  ·obtain ⟨S2, k1, k2⟩ := h2.memE he
   exact ⟨S2, k1, k2.trans (List.sublist_append_right _ _)⟩
theorem Heap.wrapN {σ0 σ : St} {A es : List Ent} (h : Heap σ0 σ (A ++ es)) : ∃ F2 σ2, Heap σ0 σ (.keep F2 σ2 :: es) ∧ (∀ σ' es', Heap σ0 σ' (.keep F2 σ2 :: es') → Heap σ0 σ' (A ++ es')) ∧
  (∀ x c, Ent.box x c ∈ A → Kb F2 σ2 x c) ∧ ∀ Fk σk, Ent.keep Fk σk ∈ A → KLe Fk σk F2 σ2 := by
 obtain ⟨F, h1, h2, h3⟩ := h.ex
 obtain ⟨F1, F2, rfl, h4, h5⟩ := h1.split
 have hnd := (List.nodup_append.1 h2).1
 refine ⟨F1, σ, ⟨h.grow, F1 ++ F2, ⟨F1, F2, rfl, ⟨rfl, fun b hb => ⟨rfl, h4.some b hb⟩⟩, h5⟩, h2, h3⟩, fun σ' es' k => ?_, fun x c hx => ?_, fun Fk σk hx => ?_⟩
 ·obtain ⟨G, k1, k2, k3⟩ := k.ex
  obtain ⟨S, F', rfl, ⟨rfl, k6⟩, k7⟩ := k1
  exact ⟨k.grow, S ++ F', (h4.same fun b hb => (k6 b hb).1).join k7, k2, k3⟩
 ·obtain ⟨S, ⟨rfl, B, q1, q2, q3, q4, _⟩, q5⟩ := h4.memE hx
  exact ⟨q5.subset (by simp), B, q1, q2, q3, q4⟩
 ·obtain ⟨S, ⟨rfl, q1⟩, q5⟩ := h4.memE hx
  exact ⟨hnd.sublist q5, fun b hb => ⟨q5.subset hb, (q1 b hb).1⟩⟩
theorem Heap.part {σ0 σ σk σ2 : St} {Fk F2 : List Nat} {es : List Ent} (h : Heap σ0 σ (.keep F2 σ2 :: es)) (k : KLe Fk σk F2 σ2) : ∃ F3, Heap σ0 σ (.keep Fk σk :: .keep F3 σ2 :: es) ∧ ∀ σ' es', Heap σ0 σ' (.keep Fk σk :: .keep F3 σ2 :: es') → Heap σ0 σ' (.keep F2 σ2 :: es') := by
 obtain ⟨S0, ⟨rfl, _⟩, hn2, _⟩ := h.head
 refine ⟨S0.filter fun b => decide (b ∉ Fk), ?_, fun σ' es' h' => ?_⟩
 ·refine Heap.step (es1 := [.keep S0 σ2]) (es2 := [.keep Fk σk, .keep (S0.filter fun b => decide (b ∉ Fk)) σ2]) (es := es) h (Nat.le_refl _) fun S hS hnd hbd => ?_
  obtain ⟨S1, F1, rfl, ⟨rfl, h1⟩, hnil⟩ := hS
  cases hnil
  refine ⟨Fk ++ S1.filter fun b => decide (b ∉ Fk), ⟨Fk, S1.filter fun b => decide (b ∉ Fk), rfl, ⟨rfl, fun b hb => ?_⟩, _, [], by simp, ⟨rfl, fun b hb => h1 b (List.mem_filter.1 hb).1⟩, rfl⟩, ?_, fun b hb => .inl ?_, fun _ _ _ => rfl⟩
  ·obtain ⟨k1, k2⟩ := k.2 b hb
   exact ⟨by rw [(h1 b k1).1, k2], (h1 b k1).2⟩
  ·exact List.nodup_append.2 ⟨k.1, hn2.filter _, fun a ha b hb => by
    rintro rfl
    have := (List.mem_filter.1 hb).2
    simp at this; exact this ha⟩
  ·rw [List.append_nil]
   rcases List.mem_append.1 hb with hb | hb
   ·exact (k.2 b hb).1
   ·exact (List.mem_filter.1 hb).1
 ·refine Heap.step (es1 := [.keep Fk σk, .keep (S0.filter fun b => decide (b ∉ Fk)) σ2]) (es2 := [.keep S0 σ2]) (es := es') h' (Nat.le_refl _) fun S hS hnd hbd => ?_
  obtain ⟨S1, F1, rfl, ⟨rfl, h1⟩, S3, F3, rfl, ⟨rfl, h3⟩, hnil⟩ := hS
  cases hnil
  refine ⟨S0, ⟨S0, [], by simp, ⟨rfl, fun b hb => ?_⟩, rfl⟩, hn2, fun b hb => .inl ?_, fun _ _ _ => rfl⟩
  ·by_cases hm : b ∈ S1
   ·exact ⟨by rw [(h1 b hm).1, (k.2 b hm).2], (h1 b hm).2⟩
   ·exact h3 b (List.mem_filter.2 ⟨hb, by simpa using hm⟩)
  ·rw [List.append_nil]
   by_cases hm : b ∈ S1
   ·exact List.mem_append_left _ hm
   ·exact List.mem_append_right _ (List.mem_filter.2 ⟨hb, by simpa using hm⟩)
theorem hV_ {σ0 σ : St} {es : List Ent} {i : Nat} {F : List Nat} {σk : St} (hH : Heap σ0 σ es) (he : es[i]? = some (.keep F σk)) : ∀ b ∈ F, σ.blk b = σk.blk b := by
 obtain ⟨S, ⟨rfl, h1⟩, _⟩ := (hH.at i he).head
 exact fun b hb => (h1 b hb).1
theorem kg_ {σ0 σ σ1 σ2 : St} {es es1 : List Ent} {i j : Nat} {F : List Nat} {R : Nat → Prop} (hH : Heap σ0 σ es) (he : es[i]? = some (.keep F σ2)) (hK : Heap σ0 σ1 es1) (he1 : es1[j]? = some (.keep F σ2)) (hR : ∀ x, R x → x ∈ F) : ∀ x, R x → σ1.blk x = σ.blk x := fun x hx => by
 rw [hV_ hK he1 x (hR x hx), hV_ hH he x (hR x hx)]
section
variable (P : Program) (md : Nat → Md) (X : Ext) {α : Type}
def dV_ (en : α → List T → List Ent) (n : Nat) (th : T) (Φ : Int → α → Option (Bool × α)) (F : List Nat) (σk : St) : Prop :=
 ∀ e S y hs, hs.length = n → Φ e S = some y → ∃ f a b, th = .fn f a b ∧ RawS P md X f (a ++ [.int .i64 e] ++ b) n (fun _ => .bool y.1) (en S hs ++ [.keep F σk]) (fun hs' => en y.2 hs' ++ [.keep F σk])
end
section
variable {P : Program} {md : Nat → Md} {X : Ext} {α : Type} {en : α → List T → List Ent} {n : Nat} {th : T} {Φ : Int → α → Option (Bool × α)} {F F2 : List Nat} {σk σ2 : St}
theorem dV_.mono (h : dV_ P md X en n th Φ F σk) (k : KLe F σk F2 σ2) : dV_ P md X en n th Φ F2 σ2 := fun e S y hs hl hy => by
 obtain ⟨f, a, b, e1, h1⟩ := h e S y hs hl hy
 refine ⟨f, a, b, e1, fun σ0 σ E hH => ?_⟩
 rw [List.append_assoc] at hH
 have hH := hH.perm List.perm_append_comm
 obtain ⟨F3, h2, h3⟩ := Heap.part (es := E ++ en S hs) hH k
 have h2 : Heap σ0 σ ((en S hs ++ [.keep F σk]) ++ (.keep F3 σ2 :: E)) := h2.perm (by
  rw [List.append_assoc]
  refine List.Perm.trans ?_ List.perm_append_comm
  simp only [List.cons_append, List.nil_append]; exact .refl _)
 obtain ⟨hs', σ', q1, q2, q3⟩ := h1 σ0 σ _ h2
 refine ⟨hs', σ', q1, q2, ?_⟩
 have q3 : Heap σ0 σ' (.keep F σk :: .keep F3 σ2 :: (E ++ en y.2 hs')) := q3.perm (by
  rw [List.append_assoc]
  refine List.Perm.trans List.perm_append_comm ?_
  simp only [List.cons_append, List.nil_append]; exact .refl _)
 have q4 := h3 _ _ q3
 rw [List.append_assoc]
 exact q4.perm (by
  refine List.Perm.trans ?_ List.perm_append_comm
  simp only [List.cons_append, List.nil_append]; exact .refl _)
variable {ops : Array Oper} {m : Mo} {l : List Oper} {K : Fr → Prop} {s : Nat → T} {σ σ0 : St} {L : List (Nat × T)} {es ents : List Ent}
variable {d : Option Nat} {ty : TypeId} {ps : String} {af : Array Edge} {g : Option (Nat × Bool)}
theorem RawS.keep {f n : Nat} {args : List T} {tree : List T → T} {ents : List Ent} {ents' : List T → List Ent} (h : RawS P md X f args n tree ents ents') (ks : List Ent) : RawS P md X f args n tree (ents ++ ks) (fun hs => ents' hs ++ ks) := fun σ0 σ E hH => by
 rw [List.append_assoc] at hH
 obtain ⟨hs, σ', h1, h2, h3⟩ := h σ0 σ (ks ++ E) hH
 exact ⟨hs, σ', h1, h2, by rw [List.append_assoc]; exact h3⟩
theorem g3_ {fo : Operand} {as : Array Operand} {tys : Array TypeId} {e : Int} {S : α} {y : Bool × α} {hs : List T} (hth : dV_ P md X en n th Φ F σk) (hl : hs.length = n) (hy : Φ e S = some y) (hw : want ops L g = some true) (hS : Sub L s) (hf : gE (get L) fo = some th) (ha : gEs (get L) as.toList = some [.int .i64 e])
  (hH : Heap σ0 σ ((en S hs ++ [.keep F σk]) ++ es))
  (k : ∀ hs' σ' s', hs'.length = n → Heap σ0 σ' ((en y.2 hs' ++ [.keep F σk]) ++ es) → Sub (putL L d (.bool y.1)) s' → opsX P (run P md X) ops .q l K ⟨s', σ'⟩) : opsX P (run P md X) ops .q (⟨d, .call ⟨.value fo, as, tys⟩, ty, ps, af, g⟩ :: l) K ⟨s, σ⟩ := by
 obtain ⟨f, a, b, rfl, h1⟩ := hth e S y hs hl hy
 exact nt_ hw hS hf ha hH h1 k
theorem jQ_ (hX : XOk X) (hm : m.chg = true) (R : Nat → Prop) (hR : Stay R es) (hwr : ∀ x, ¬ R x → m.wr x) {fo : Operand} {as : Array Operand} {tys : Array TypeId} {e : Int} {S : α} {y : Bool × α} {hs : List T} (hth : dV_ P md X en n th Φ F σk) (hl : hs.length = n) (hy : Φ e S = some y) (hw : want ops L g = some true) (hS : Sub L s) (hf : gE (get L) fo = some th) (ha : gEs (get L) as.toList = some [.int .i64 e])
  (hH : Heap σ0 σ ((en S hs ++ [.keep F σk]) ++ es))
  (k : ∀ hs' σ' s', hs'.length = n → Heap σ0 σ' ((en y.2 hs' ++ [.keep F σk]) ++ es) → Sub (putL L d (.bool y.1)) s' → opsX P (run P md X) ops (nxM m) l K ⟨s', σ'⟩) : opsX P (run P md X) ops m (⟨d, .call ⟨.value fo, as, tys⟩, ty, ps, af, g⟩ :: l) K ⟨s, σ⟩ := by
 obtain ⟨f, a, b, rfl, h1⟩ := hth e S y hs hl hy
 exact l0_ hX hm R hR hwr hw hS hf ha hH h1 k
theorem l6_ {O : aM_} {a : Operand} {t : TypeId} {b off n : Nat} {c : List T} {v : T} (i : Nat) (hlt : m.lt b) (hk : Kb F σk b c) (hw : want ops L g = some true) (hS : Sub L s) (hH : Heap σ0 σ es) (he : es[i]? = some (.keep F σk)) (ha : gE (get L) a = some (.ptr b 0 off n)) (hv : part P t ((c.drop off).take n) 0 = some v)
  (k : ∀ s', Sub (putL L d v) s' → opsX P O ops (nxM m) l K ⟨s', σ⟩) : opsX P O ops m (⟨d, .load t a, ty, ps, af, g⟩ :: l) K ⟨s, σ⟩ := by
 obtain ⟨h1, B, h2, h3, h4, h5⟩ := hk
 have h6 := hV_ hH he b h1
 subst h3
 exact dc_ hw hS (fun kk σ' ha' => by rw [hv_, ai_ hS ha, Option.bind_some, em_, Mo.al_blk ha' hlt, h6, h2, Option.bind_some, if_pos (by omega), hv]; rfl) k
def Pt (F : List Nat) (σk : St) (pp : T) (c : List T) : Prop := (∃ rest, pp = .vw (c ++ rest)) ∨ ∃ b, pp = .ptr b 0 0 c.length ∧ Kb F σk b c
theorem Pt.mono {pp : T} {c : List T} (h : Pt F σk pp c) (k : KLe F σk F2 σ2) : Pt F2 σ2 pp c := h.imp id fun ⟨b, h1, h2⟩ => ⟨b, h1, h2.mono k⟩
theorem Pt.vw {c rest : List T} : Pt F σk (.vw (c ++ rest)) c := .inl ⟨rest, rfl⟩
theorem Pt.box {b : Nat} {c : List T} {n : Nat} (hn : n = c.length) (h : Kb F σk b c) : Pt F σk (.ptr b 0 0 n) c := .inr ⟨b, by rw [hn], h⟩
theorem Pt.one {pp : T} {c : List T} (h : Pt F σk pp c) : ar_ pp := by
 rcases h with ⟨rest, rfl⟩ | ⟨b, rfl, _⟩ <;> exact ⟨rfl, rfl⟩
theorem qf_ {O : aM_} {x : Operand} {pp : T} {c : List T} (hp : Pt F σk pp c) (hw : want ops L g = some true) (hS : Sub L s) (hx : gE (get L) x = some pp)
  (k : ∀ s', Sub (putL L d pp) s' → opsX P O ops (nxM m) l K ⟨s', σ⟩) : opsX P O ops m (⟨d, .nilCheck x, ty, ps, af, g⟩ :: l) K ⟨s, σ⟩ := by
 refine dc_ hw hS (fun kk σ' _ => ?_) k
 refine h5_ hS ?_ kk σ' _ _ _ _ _
 rcases hp with ⟨rest, rfl⟩ | ⟨b, rfl, _⟩ <;> simp only [pOp, hx]
def ptAt (pp : T) (off n : Nat) : T := match pp with
 | .vw cs => .vw (cs.drop off)
 | .ptr b e o m => .ptr b e (o + off) n
 | t => t
theorem lP_ {t : TypeId} {xs ys : List T} {v : T} (h : part P t xs 0 = some v) : part P t (xs ++ ys) 0 = some v := by
 unfold part at h ⊢
 cases ha : iS_ P t with
 | none => rw [ha] at h; cases h
 | some b =>
  rw [ha, Option.bind_some] at h
  rw [Option.bind_some]
  cases b with
  | false =>
   simp only [Bool.false_eq_true, if_false] at h ⊢
   have hl : 0 < xs.length := (List.getElem?_eq_some_iff.1 h).1
   rw [List.getElem?_append_left hl]; exact h
  | true =>
   simp only [if_true] at h ⊢
   cases hs : szOf P t with
   | none => rw [hs] at h; cases h
   | some k =>
    rw [hs, Option.bind_some] at h
    rw [Option.bind_some]
    split at h
    ·rename_i hk
     rw [if_pos (by rw [List.length_append]; omega), List.drop_zero, List.take_append_of_le_length (by omega)]
     rw [List.drop_zero] at h; exact h
    ·cases h
theorem oA_ {O : aM_} {x : Operand} {t : TypeId} {f off n : Nat} {ft : TypeId} {pp : T} {c : List T} (hp : Pt F σk pp c) (hw : want ops L g = some true) (hS : Sub L s) (hx : gE (get L) x = some pp) (hf : bu_ P t f = some (off, ft, n)) (hn : (!Nat.beq n 0 && Nat.ble (off + n) c.length) = true)
  (k : ∀ s', Sub (putL L d (ptAt pp off n)) s' → opsX P O ops (nxM m) l K ⟨s', σ⟩) : opsX P O ops m (⟨d, .fieldAddr t x f, ty, ps, af, g⟩ :: l) K ⟨s, σ⟩ := by
 simp only [Bool.and_eq_true, Bool.not_eq_true'] at hn
 have n0 := Nat.ne_of_beq_eq_false hn.1; have n1 := Nat.le_of_ble_eq_true hn.2
 refine dc_ hw hS (fun kk σ' _ => ?_) k
 refine h5_ hS ?_ kk σ' _ _ _ _ _
 rcases hp with ⟨rest, rfl⟩ | ⟨b, rfl, _⟩
 ·simp only [pOp, hx, hf, if_neg n0, ptAt]
  rw [if_pos (by rw [List.length_append]; omega)]
 ·simp only [pOp, hx, hf, if_neg n0, ptAt]
  rw [if_pos n1]
theorem oW_ {O : aM_} {x : Operand} {t : TypeId} {off n : Nat} {pp v : T} {c : List T} (i : Nat) (hm : ∀ b, m.lt b) (hp : Pt F σk pp c) (hw : want ops L g = some true) (hS : Sub L s) (hH : Heap σ0 σ es) (he : es[i]? = some (.keep F σk)) (hx : gE (get L) x = some (ptAt pp off n)) (hn : Nat.ble off c.length = true) (hv : part P t ((c.drop off).take n) 0 = some v)
  (k : ∀ s', Sub (putL L d v) s' → opsX P O ops (nxM m) l K ⟨s', σ⟩) : opsX P O ops m (⟨d, .load t x, ty, ps, af, g⟩ :: l) K ⟨s, σ⟩ := by
 have hn := Nat.le_of_ble_eq_true hn
 rcases hp with ⟨rest, rfl⟩ | ⟨b, rfl, hk⟩
 ·refine dc_ hw hS (fun kk σ' _ => ?_) k
  rw [hv_, ai_ hS hx, Option.bind_some]
  show Option.map _ (h2_ P σ' t (.vw ((c ++ rest).drop off))) = _
  rw [lT_, List.drop_append_of_le_length hn]
  have := lP_ (ys := (c.drop off).drop n) hv
  rw [List.take_append_drop] at this
  rw [lP_ this]; rfl
 ·refine l6_ i (hm _) hk hw hS hH he (off := off) (n := n) ?_ hv k
  rw [hx]; simp [ptAt]
theorem nD_ {β : Type} [Enc β] [Hld false β] {t : T} {a : Sl β} (h : Heap σ0 σ (.flt (Enc.w β) t a.t :: es)) : ∃ D S, frz σ D t = some (a.t, S) := by
 rcases ei_ h with ⟨rfl, rfl⟩ | ⟨rfl, rfl⟩ | ⟨b, B, rfl, hz, hB, c1, c2, c3, c4, c5, c6⟩
 ·exact ⟨0, [], rfl⟩
 ·exact ⟨0, [], rfl⟩
 ·refine ⟨1, [b], ?_⟩
  have h1 : frzL (frz σ 0) (am_ a.l) = some (am_ a.l, []) := aE_ (fun t v S _ hq _ => gd_ 0 t v S hq) (Hld.list (z := false) σ 0 a.l)
  simp only [frz, hB, Option.bind_some, List.drop_zero, c3, c6, h1, Option.map_some]
  rw [if_pos ⟨c2, c4⟩]
  show some (T.row false a.l.length (am_ a.l), [b]) = some (T.row a.z a.l.length (am_ a.l), [b])
  rw [hz]
theorem qe_ {β : Type} [Enc β] [Hld false β] {tb t1 t2 : T} {a1 a2 : Sl β} (h : Heap σ0 σ (.flt 1 tb (.row false 2 [t1, t2]) :: .flt (Enc.w β) t1 a1.t :: .flt (Enc.w β) t2 a2.t :: es)) : ∃ D S, frzL (frz σ D) [tb] = some ([Sl.t (⟨false, [a1, a2]⟩ : Sl (Sl β))], S) := by
 obtain ⟨D1, S1, h1⟩ := nD_ (h.at 1 rfl)
 obtain ⟨D2, S2, h2⟩ := nD_ (h.at 2 rfl)
 have h1 := fg_ D1 _ _ _ h1 (max D1 D2) (Nat.le_max_left _ _)
 have h2 := fg_ D2 _ _ _ h2 (max D1 D2) (Nat.le_max_right _ _)
 obtain ⟨S, hS, _⟩ := h.head
 rcases hS with ⟨_, hv, _⟩ | ⟨_, hv, _⟩ | ⟨b, B, n, rfl, hv, _, h3, h4, h5, h6, h7, h8⟩
 ·cases hv
 ·injection hv with _ e _; cases e
 ·injection hv with _ e1 e2
  subst e1
  refine ⟨max D1 D2 + 1, b :: (S1 ++ S2), ?_⟩
  simp only [frzL, frz, h3, Option.bind_some, List.drop_zero, h6, ← e2, h1, h2, Option.map_some, List.append_nil]
  rw [if_pos ⟨h5, by decide⟩]
  rfl
theorem pc_ {β : Type} {r : β} {f : Nat} (hm : m.chg = true) {Sh : fF_ β} {fo : Operand} {as : Array Operand} {tys : Array TypeId} {ts vs : List T} (hw : want ops L g = some true) (hS : Sub L s) (hf : gE (get L) fo = some (.fn f [] [])) (ha : gEs (get L) as.toList = some ts)
  (hv : md f = .own) (hH : Heap σ0 σ es) (hh : ∃ D S, frzL (frz σ D) ts = some (vs, S)) (hr : semO P md X Sh f vs = some r)
  (k : ∀ hs σ' s', hs.length = Sh.n → Heap σ0 σ' (Sh.en hs r ++ es) → Sub (putL L d (Sh.tree hs r)) s' → opsX P (run P md X) ops (nxM m) l K ⟨s', σ'⟩) : opsX P (run P md X) ops m (⟨d, .call ⟨.value fo, as, tys⟩, ty, ps, af, g⟩ :: l) K ⟨s, σ⟩ := by
 obtain ⟨D, S, h1⟩ := hh
 obtain ⟨hs, σ1, m1, m2, m3⟩ := kI_ hr (σ.mark S)
 have hrun := iH_ hv h1 m2
 have hH' : Heap σ0 ⟨σ1.next, fun i => if i < σ.next then σ.blk i else σ1.blk i⟩ (Sh.en hs r ++ es) := by
  refine Heap.step (es1 := []) (es2 := Sh.en hs r) (es := es) hH m3.grow.nx fun S' hS' _ _ => ?_
  obtain ⟨F, q1, q2, q3⟩ := m3.ex
  refine ⟨F, q1.same fun b hb => ?_, q2, fun b hb => .inr (q3 b hb), fun b hb _ => ?_⟩
  ·have := (q3 b hb).1
   simp only [k1_] at this
   simp only; rw [if_neg (by omega)]
  ·simp only; rw [if_pos hb]
 refine jS_ (f := f) (args := [] ++ ts ++ []) (r := Sh.tree hs r) (σ' := ⟨σ1.next, fun i => if i < σ.next then σ.blk i else σ1.blk i⟩) hm rfl (aJ_ hS hw) (fun kk σ' => by rw [h3_, cw_ hS ha, Option.bind_some, ai_ hS hf]; rfl) (by simpa using hrun) m3.grow.nx (fun x hx => by simp only; rw [if_pos hx]) ?_
 rw [bT_]
 exact k _ _ _ m1 hH' (a0_ hS d _ σ)
end
end Go.Am
end
section
set_option linter.unusedVariables false
set_option linter.unusedSimpArgs false
namespace Go.Am
def idxE : List T → St → Option (T × St)
 | [.str s, .int .u8 c], σ => some (.int .i64 (firstIdx s c.toNat.toUInt8), σ)
 | _, _ => none
theorem sH_ {P : Program} {f : Nat} {fn : Func} (h1 : P.funcs[f]? = some fn) (h2 : (fn.name == "runtime.NumGoroutine") = false) (h3 : fn.body.isNone = true) (h4 : Extern.findNext fn = none) (h5 : Extern.find fn = some Extern.BytealgIndexByte.indexByte)
  (args : List T) (σ : St) (r : T) (σ' : St) (h : idxE args σ = some (r, σ')) : gB_ P f args σ r σ' := by
 intro B0 w0 E w vs hR hv
 unfold idxE at h
 split at h
 ·rename_i σ1 s c
  injection h with h; injection h with e1 e2; subst e1; subst e2
  match vs, hv with
  | [v1, v2], hv =>
   have a1 := hv.head
   have a2 := hv.tail.head
   cases a1; cases a2
   refine .inr ⟨_, w, ?_, E, .refl E, hR, .int .i64 _, .refl _ _ _⟩
   rw [run_callFunc_extern h1 h2 h3 h4 h5]
   show Result.andThen ((Extern.BytealgIndexByte.indexByte #[.string s, .int .u8 c]).run P w) _ = _
   rw [run_indexByte_string]; rfl
  | [], hv => have := hv.1; simp at this
  | [_], hv => have := hv.1; simp at this
  | _ :: _ :: _ :: _, hv => have := hv.1; simp at this
 ·cases h
theorem t5_ (args : List T) (σ : St) (r : T) (σ' : St) (h : idxE args σ = some (r, σ')) : σ' = σ ∧ ∀ σ2, idxE args σ2 = some (r, σ2) := by
 unfold idxE at h
 split at h
 ·injection h with h; injection h with e1 e2; subst e1; subst e2
  exact ⟨rfl, fun _ => rfl⟩
 ·cases h
theorem q4_ {P : Program} {md : Nat → Md} {X : Ext} {f : Nat} {eb : Int → T} (hi : ∀ a b, eb a = eb b → a = b) (hm : md f = .raw) (hX : X f = some idxE) (s : ByteArray) (c : Int) (he : ∀ n, eb n = .int .i64 n) : semV P md X eb f [.str s, .int .u8 c] = some (firstIdx s c.toNat.toUInt8) := by
 refine jl_ hi fun σ => dJ_.2 (.raw hm (.ext hX ?_))
 rw [he]; rfl
section
variable {P : Program} {md : Nat → Md} {X : Ext} {β : Type} {eb : β → T} {f : Nat} {r : β}
variable {ops : Array Oper} {m : Mo} {l : List Oper} {K : Fr → Prop} {s : Nat → T} {σ : St} {L : List (Nat × T)}
variable {d : Option Nat} {ty : TypeId} {ps : String} {af : Array Edge} {g : Option (Nat × Bool)}
theorem jV_ {fo : Operand} {as : Array Operand} {ts : Array TypeId} {xs a b : List T} {mk : List Nat → List T} {cs : List (List T)} (bs : List Nat) (hw : want ops L g = some true) (hS : Sub L s) (hf : gE (get L) fo = some (.fn f a b)) (ha : gEs (get L) as.toList = some xs)
  (hmk : mk bs = a ++ xs ++ b) (hl : lK_ σ bs cs) (hr : semL P md X eb f mk cs = some r) (k : ∀ s', Sub (putL L d (eb r)) s' → opsX P (run P md X) ops (nxM m) l K ⟨s', σ⟩) (hvw : m.vw = false) : opsX P (run P md X) ops m (⟨d, .call ⟨.value fo, as, ts⟩, ty, ps, af, g⟩ :: l) K ⟨s, σ⟩ :=
 jt_ hw hS hf ha (by rw [← hmk]; exact nH_ hr σ bs hl) (fun e => by rw [hvw] at e; cases e) k
end
end Go.Am
namespace Go.Am
theorem nP_.of_ok {P : Program} {f : Nat} {c : Code} {n : Nat} {rs : List ResultVar} (h : Ok P f c n rs) : nP_ P f := by
 obtain ⟨fn, h1, h2, h3, _⟩ := h
 exact ⟨fn, _, h1, h2, h3⟩
end Go.Am
namespace Go.Am
section
variable {P : Program} {O : aM_} {Q : aN_ → Fr → Prop} {s : Nat → T} {σ : St} {L : List (Nat × T)}
theorem c_cT {c : Operand} {a b : Code} {t : Bool} (h : t = true) (hS : Sub L s) (hc : gE (get L) c = some (.bool t)) (k : codeQ P O a Q ⟨s, σ⟩) : codeQ P O (.cond c a b) Q ⟨s, σ⟩ := mk_ hS hc (fun _ => k) (fun hf => ol_ h hf)
theorem c_cF {c : Operand} {a b : Code} {t : Bool} (h : ¬ (t = true)) (hS : Sub L s) (hc : gE (get L) c = some (.bool t)) (k : codeQ P O b Q ⟨s, σ⟩) : codeQ P O (.cond c a b) Q ⟨s, σ⟩ := mk_ hS hc (fun hf => nE_ h hf) (fun _ => k)
end
end Go.Am
namespace Go.Am
section
variable {σ0 σ : St} {es : List Ent}
theorem Heap.up1 {a0 a1 : Ent} (h : Heap σ0 σ (a0 :: a1 :: es)) : Heap σ0 σ (a1 :: a0 :: es) := h.pull 1
theorem Heap.up2 {a0 a1 a2 : Ent} (h : Heap σ0 σ (a0 :: a1 :: a2 :: es)) : Heap σ0 σ (a2 :: a0 :: a1 :: es) := h.pull 2
theorem Heap.up3 {a0 a1 a2 a3 : Ent} (h : Heap σ0 σ (a0 :: a1 :: a2 :: a3 :: es)) : Heap σ0 σ (a3 :: a0 :: a1 :: a2 :: es) := h.pull 3
theorem Heap.up4 {a0 a1 a2 a3 a4 : Ent} (h : Heap σ0 σ (a0 :: a1 :: a2 :: a3 :: a4 :: es)) : Heap σ0 σ (a4 :: a0 :: a1 :: a2 :: a3 :: es) := h.pull 4
theorem Heap.up5 {a0 a1 a2 a3 a4 a5 : Ent} (h : Heap σ0 σ (a0 :: a1 :: a2 :: a3 :: a4 :: a5 :: es)) : Heap σ0 σ (a5 :: a0 :: a1 :: a2 :: a3 :: a4 :: es) := h.pull 5
theorem Heap.up8 {a0 a1 a2 a3 a4 a5 a6 a7 a8 : Ent} (h : Heap σ0 σ (a0 :: a1 :: a2 :: a3 :: a4 :: a5 :: a6 :: a7 :: a8 :: es)) : Heap σ0 σ (a8 :: a0 :: a1 :: a2 :: a3 :: a4 :: a5 :: a6 :: a7 :: es) := h.pull 8
end
end Go.Am
end
section
set_option linter.unusedVariables false
set_option linter.unusedSimpArgs false
namespace Go.Am
def Kn (σ0 : St) (L : List (Nat × T)) (es : List Ent) (p : Prop) (G : Fr → Prop) : Prop := p → ∀ s σ, Sub L s → Heap σ0 σ es → G ⟨s, σ⟩
inductive Ct where
 | s (c : Code)
 | b (i : Nat)
inductive Wh where
 | c (c : Code)
 | x (e : aN_)
def nx : Nat → Wh → List Ct → Option (Wh × List Ct)
 | 0, _, _ => none
 | n + 1, .c c, k => match c with
  | .seq a b => nx n (.c a) (.s b :: k)
  | .block i c => nx n (.c c) (.b i :: k)
  | .skip => nx n (.x .normal) k
  | .exit i => nx n (.x (.exit i)) k
  | .ret => nx n (.x .ret) k
  | c => some (.c c, k)
 | n + 1, .x e, k => match k with
  | [] => some (.x e, [])
  | .s c :: k => match e with
   | .normal => nx n (.c c) k
   | .exit j => nx n (.x (.exit j)) k
   | .ret => nx n (.x .ret) k
  | .b i :: k => match e with
   | .exit j => match Nat.beq j i with
    | true => nx n (.x .normal) k
    | false => nx n (.x (.exit j)) k
   | .normal => nx n (.x .normal) k
   | .ret => nx n (.x .ret) k
section
variable (P : Program) (O : aM_)
def popQ : List Ct → (aN_ → Fr → Prop) → aN_ → Fr → Prop
 | [], Q => Q
 | .s c :: k, Q => seqQ (codeQ P O c (popQ k Q)) (popQ k Q)
 | .b i :: k, Q => blkQ i (popQ k Q)
def whQ : Wh → List Ct → (aN_ → Fr → Prop) → Fr → Prop
 | .c c, k, Q, fr => codeQ P O c (popQ P O k Q) fr
 | .x e, k, Q, fr => popQ P O k Q e fr
end
section
variable {P : Program} {O : aM_} {Q : aN_ → Fr → Prop} {fr : Fr}
theorem nx_ok : ∀ {n : Nat} {w : Wh} {k : List Ct} {w' : Wh} {k' : List Ct}, nx n w k = some (w', k') → whQ P O w' k' Q fr → whQ P O w k Q fr
 | 0, _, _, _, _, h, _ => by cases h
 | n + 1, .c c, k, w', k', h, g => by
  have hd : ∀ c, some (Wh.c c, k) = some (w', k') → whQ P O (.c c) k Q fr := fun c h => by injection h with h; injection h with h1 h2; subst h1; subst h2; exact g
  cases c with
  | seq a b => exact nx_ok (n := n) (w := .c a) (k := .s b :: k) h g
  | block i c => exact nx_ok (n := n) (w := .c c) (k := .b i :: k) h g
  | skip => exact nx_ok (n := n) (w := .x .normal) h g
  | exit i => exact nx_ok (n := n) (w := .x (.exit i)) h g
  | ret => exact nx_ok (n := n) (w := .x .ret) h g
  | _ => exact hd _ h
 | n + 1, .x e, [], w', k', h, g => by injection h with h; injection h with h1 h2; subst h1; subst h2; exact g
 | n + 1, .x e, .s c :: k, w', k', h, g => by
  cases e with
  | normal => exact nx_ok (n := n) (w := .c c) (k := k) h g
  | exit j => exact nx_ok (n := n) (w := .x (.exit j)) (k := k) h g
  | ret => exact nx_ok (n := n) (w := .x .ret) (k := k) h g
 | n + 1, .x e, .b i :: k, w', k', h, g => by
  cases e with
  | normal => exact nx_ok (n := n) (w := .x .normal) (k := k) h g
  | exit j =>
   simp only [nx] at h
   show popQ P O k Q (if j = i then .normal else .exit j) fr
   split at h
   ·rename_i hb; rw [if_pos (Nat.eq_of_beq_eq_true hb)]; exact nx_ok (n := n) (w := .x .normal) (k := k) h g
   ·rename_i hb; rw [if_neg (fun e => by rw [e] at hb; simp at hb)]; exact nx_ok (n := n) (w := .x (.exit j)) (k := k) h g
  | ret => exact nx_ok (n := n) (w := .x .ret) (k := k) h g
end
def foL {α β : Type} : List α → (List α → Option β) → Option β
 | [], k => k []
 | x :: xs, k => foL xs fun ys => k (x :: ys)
theorem cG_ {α β : Type} : ∀ (l : List α) (k : List α → Option β), foL l k = k l
 | [], _ => rfl
 | x :: xs, k => by rw [foL, cG_ xs]
def tkL {β : Type} : Nat → List T → (List T → Option β) → Option β
 | 0, _, k => k []
 | _ + 1, [], _ => none
 | n + 1, x :: xs, k => tkL n xs fun ys => k (x :: ys)
theorem jX_ {β : Type} {b : β} : ∀ {n : Nat} {l : List T} {k : List T → Option β}, tkL n l k = some b → n ≤ l.length ∧ k (l.take n) = some b
 | 0, l, k, h => ⟨Nat.zero_le _, by simpa [tkL] using h⟩
 | n + 1, [], k, h => by cases h
 | n + 1, x :: xs, k, h => by
  obtain ⟨h1, h2⟩ := jX_ (n := n) (l := xs) h
  exact ⟨by simp; omega, by simpa using h2⟩
def drL : Nat → List T → Option (List T)
 | 0, l => some l
 | _ + 1, [] => none
 | n + 1, _ :: xs => drL n xs
theorem drL_some : ∀ {n : Nat} {l r : List T}, drL n l = some r → n ≤ l.length ∧ r = l.drop n
 | 0, l, r, h => ⟨Nat.zero_le _, by injection h with h; simp [h]⟩
 | n + 1, [], r, h => by cases h
 | n + 1, x :: xs, r, h => by
  obtain ⟨h1, h2⟩ := drL_some (n := n) (l := xs) h
  exact ⟨by simp; omega, by simpa using h2⟩
def iU_ (P : Program) (t : TypeId) (cs : List T) (off : Nat) : Option T :=
 match drL off cs with
 | some cs => match iS_ P t with
  | some true => match szOf P t with
   | some n => tkL n cs fun l => some (.agg l)
   | none => none
  | some false => match cs with
   | x :: _ => some x
   | [] => none
  | none => none
 | none => none
theorem l8_ {P : Program} {t : TypeId} {cs : List T} {off : Nat} {v : T} (h : iU_ P t cs off = some v) : part P t cs off = some v := by
 unfold iU_ at h
 split at h
 ·rename_i r hr
  obtain ⟨h1, rfl⟩ := drL_some hr
  unfold part
  split at h
  ·rename_i ha
   split at h
   ·rename_i n hn
    obtain ⟨h2, h3⟩ := jX_ h
    simp only [List.length_drop] at h2
    rw [ha, Option.bind_some, hn]
    simp only [if_true, Option.bind_some]
    rw [if_pos (by omega)]; exact h3
   ·cases h
  ·rename_i ha
   rw [ha, Option.bind_some]
   simp only [Bool.false_eq_true, if_false]
   split at h
   ·rename_i x xs hx
    injection h with h; subst h
    have := congrArg (·[0]?) hx
    simpa using this
   ·cases h
  ·cases h
 ·cases h
def pj_ (place : Nat → Option (Nat × Nat)) (cells : List T) : List (Nat × T) → Option (List T)
 | [] => some cells
 | (i, v) :: rest => match place i with
  | some (off, size) => match Nat.beq v.cells.length size && Nat.ble (off + size) cells.length && v.cells.all T.one with
   | true => foL (splice cells off v.cells) fun cells => pj_ place cells rest
   | false => none
  | none => none
theorem mo_ {place : Nat → Option (Nat × Nat)} : ∀ {ps : List (Nat × T)} {cells r : List T}, pj_ place cells ps = some r → et_ place cells ps = some r
 | [], _, _, h => h
 | (i, v) :: rest, cells, r, h => by
  simp only [pj_] at h
  split at h
  ·rename_i off size hp
   split at h
   ·rename_i hc
    simp only [Bool.and_eq_true] at hc
    rw [cG_] at h
    simp only [et_, hp, Option.bind_some]
    rw [if_pos ⟨Nat.eq_of_beq_eq_true hc.1.1, Nat.le_of_ble_eq_true hc.1.2, hc.2⟩]
    exact mo_ h
   ·cases h
  ·cases h
def pF (P : Program) (g : Nat → Option T) (op : Op) : Option T :=
 match op with
 | .build t parts => match aZ_ P t with
  | some z => match gPs g parts.toList with
   | some ps => match okP P t with
    | true => match pj_ (fun i => match bu_ P t i with | some (o, _, n) => some (o, n) | none => none) z ps with
     | some cs => foL cs fun cs => some (.agg cs)
     | none => none
    | false => none
   | none => none
  | none => none
 | .load t a => match gE g a with
  | some (.vw cs) => iU_ P t cs 0
  | _ => none
 | .field t x f => match gE g x with
  | some (.agg cs) => match bu_ P t f with
   | some (off, ft, _) => iU_ P ft cs off
   | none => none
  | _ => none
 | .fieldAddr t x f => match gE g x with
  | some x => match bu_ P t f with
   | some (off, _, n) => match x with
    | .ptr b e o m => match !Nat.beq n 0 && Nat.ble (off + n) m with
     | true => some (.ptr b e (o + off) n)
     | false => none
    | .vw cs => match n with
     | 0 => none
     | _ + 1 => match drL off cs with
      | some cs' => match tkL n cs' (fun _ => some ()) with
       | some _ => some (.vw cs')
       | none => none
      | none => none
    | _ => none
   | none => none
  | none => none
 | op => pOp P g op
theorem sZ_ {P : Program} {g : Nat → Option T} {op : Op} {v : T} (h : pF P g op = some v) : pOp P g op = some v := by
 cases op with
 | build t parts =>
  simp only [pF] at h
  split at h
  ·rename_i z hz
   split at h
   ·rename_i ps hp
    split at h
    ·rename_i hk
     split at h
     ·rename_i cs hc
      rw [cG_] at h
      have e : (fun i => (bu_ P t i).map fun (o, _, n) => (o, n)) = fun i => match bu_ P t i with | some (o, _, n) => some (o, n) | none => none := by
       funext i; cases bu_ P t i <;> rfl
      simp only [pOp, hz, hp, hk, e, mo_ hc]; exact h
     ·cases h
    ·cases h
   ·cases h
  ·cases h
 | load t a =>
  simp only [pF] at h
  split at h
  ·rename_i hc; simp only [pOp, hc]; exact l8_ h
  ·cases h
 | field t x f =>
  simp only [pF] at h
  split at h
  ·rename_i hc
   split at h
   ·rename_i hf; simp only [pOp, hc, hf]; exact l8_ h
   ·cases h
  ·cases h
 | fieldAddr t x f =>
  simp only [pF] at h
  split at h
  ·rename_i hx
   split at h
   ·rename_i hf
    simp only [pOp, hx, hf]
    split at h
    ·split at h
     ·rename_i hc
      simp only [Bool.and_eq_true, Bool.not_eq_true'] at hc
      show (if _ = 0 then none else if _ then _ else none) = _; rw [if_neg (fun (e : _ = 0) => by rw [e] at hc; simp at hc), if_pos (Nat.le_of_ble_eq_true hc.2)]; exact h
     ·cases h
    ·split at h
     ·cases h
     ·split at h
      ·rename_i cs' hd
       obtain ⟨h1, rfl⟩ := drL_some hd
       split at h
       ·rename_i u hu
        obtain ⟨h2, _⟩ := jX_ hu
        simp only [List.length_drop] at h2
        show (if _ = 0 then none else if _ then _ else none) = _; rw [if_neg (by omega), if_pos (by omega)]; exact h
       ·cases h
      ·cases h
    ·cases h
   ·cases h
  ·cases h
 | _ => exact h
def sg (P : Program) (ops : Array Oper) : Nat → List Oper → List (Nat × T) → Option (List (Nat × T) × List Oper)
 | 0, l, L => some (L, l)
 | _ + 1, [], _ => none
 | n + 1, o :: l, L => match want ops L o.guard with
  | some true => match pF P (get L) o.op with
   | some v => match o.dst with
    | some d => sg P ops n l ((d, v) :: L)
    | none => sg P ops n l L
   | none => none
  | some false => match o.dst with
   | some d => sg P ops n l ((d, .tup []) :: L)
   | none => sg P ops n l L
  | none => none
theorem jb_ {P : Program} {ops : Array Oper} : ∀ {n : Nat} {l : List Oper} {L : List (Nat × T)} {M : List (Nat × T)} {l' : List Oper}, sg P ops n l L = some (M, l') → seg P ops n l L = some M ∧ l' = l.drop n
 | 0, l, L, M, l', h => by injection h with h; injection h with h1 h2; subst h1; subst h2; exact ⟨rfl, rfl⟩
 | n + 1, [], L, M, l', h => by cases h
 | n + 1, o :: l, L, M, l', h => by
  simp only [sg] at h
  simp only [seg, List.drop_succ_cons]
  split at h
  ·rename_i hw
   split at h
   ·rename_i v hv
    simp only [hw, sZ_ hv]
    split at h
    ·rename_i d hd; rw [hd]; exact jb_ h
    ·rename_i hd; rw [hd]; exact jb_ h
   ·cases h
  ·rename_i hw
   simp only [hw]
   split at h
   ·rename_i d hd; rw [hd]; exact jb_ h
   ·rename_i hd; rw [hd]; exact jb_ h
  ·cases h
def sgA (P : Program) (ops : Array Oper) : List Oper → List (Nat × T) → Option (List (Nat × T))
 | [], L => some L
 | o :: l, L => match want ops L o.guard with
  | some true => match pF P (get L) o.op with
   | some v => match o.dst with
    | some d => sgA P ops l ((d, v) :: L)
    | none => sgA P ops l L
   | none => none
  | some false => match o.dst with
   | some d => sgA P ops l ((d, .tup []) :: L)
   | none => sgA P ops l L
  | none => none
theorem iu_ {P : Program} {ops : Array Oper} : ∀ {l : List Oper} {L : List (Nat × T)} {M : List (Nat × T)}, sgA P ops l L = some M → seg P ops l.length l L = some M
 | [], L, M, h => by injection h with h; subst h; rfl
 | o :: l, L, M, h => by
  simp only [sgA] at h
  simp only [seg, List.length_cons]
  split at h
  ·rename_i hw
   split at h
   ·rename_i v hv
    simp only [hw, sZ_ hv]
    split at h
    ·rename_i d hd; rw [hd]; exact iu_ h
    ·rename_i hd; rw [hd]; exact iu_ h
   ·cases h
  ·rename_i hw
   simp only [hw]
   split at h
   ·rename_i d hd; rw [hd]; exact iu_ h
   ·rename_i hd; rw [hd]; exact iu_ h
  ·cases h
section
variable {P : Program} {O : aM_} {ops : Array Oper} {m : Mo} {l l' : List Oper} {K : Fr → Prop} {σ0 : St} {L L' : List (Nat × T)} {es es' : List Ent} {p q : Prop} {G : Fr → Prop}
variable {Q : aN_ → Fr → Prop} {k k' : List Ct} {w w' : Wh} {s : Nat → T} {σ : St}
theorem t_bk (h : p) (hS : Sub L s) (hH : Heap σ0 σ es) (kk : Kn σ0 L es p G) : G ⟨s, σ⟩ := kk h s σ hS hH
theorem t_h (f : ∀ {σ}, Heap σ0 σ es → Heap σ0 σ es') (kk : Kn σ0 L es' p G) : Kn σ0 L es p G := fun h s σ hS hH => kk h s σ hS (f hH)
theorem t_U (n : Nat) (kk : Kn σ0 L' es p (opsX P O ops (nxN n m) l' K)) (h : sg P ops n l L = some (L', l') := by rfl) : Kn σ0 L es p (opsX P O ops m l K) := fun hp s σ hS hH => by
 obtain ⟨h1, rfl⟩ := jb_ h
 exact seg_sound h1 hS fun s' hM => kk hp s' σ hM hH
theorem t_N (kk : Kn σ0 L' es p (whQ P O w' k' Q)) (h : sgA P ops l L = some L' := by rfl) (h2 : nx 99 (.x .normal) k = some (w', k') := by rfl) : Kn σ0 L es p (opsX P O ops m l (popQ P O k Q .normal)) := fun hp s σ hS hH =>
 seg_sound (iu_ h) hS fun s' hM => by
  rw [List.drop_length]
  exact ub_ (nx_ok (w := .x .normal) h2 (kk hp s' σ hM hH))
theorem t_R {id : Nat} (kk : Kn σ0 L es p (opsX P O ops .q ops.toList (popQ P O k Q .normal))) : Kn σ0 L es p (whQ P O (.c (.region id ops false)) k Q) := kk
theorem t_RU {id : Nat} (n : Nat) (kk : Kn σ0 L' es p (opsX P O ops .q l' (popQ P O k Q .normal))) (h : sg P ops n ops.toList L = some (L', l') := by rfl) : Kn σ0 L es p (whQ P O (.c (.region id ops false)) k Q) := fun hp s σ hS hH => by
 obtain ⟨h1, rfl⟩ := jb_ h
 have e : ∀ n, nxN n Mo.q = .q := fun n => by induction n with
  | zero => rfl
  | succ n ih => exact ih
 exact seg_sound (m := .q) h1 hS fun s' hM => by rw [e]; exact kk hp s' σ hM hH
theorem t_RN {id : Nat} (kk : Kn σ0 L' es p (whQ P O w' k' Q)) (h : sgA P ops ops.toList L = some L' := by rfl) (h2 : nx 99 (.x .normal) k = some (w', k') := by rfl) : Kn σ0 L es p (whQ P O (.c (.region id ops false)) k Q) := t_R (t_N kk h h2)
theorem t_go {c : Code} (h : p) (hS : Sub L s) (hH : Heap σ0 σ es) (kk : Kn σ0 L es p (whQ P O w' k' Q)) (hn : nx 99 (.c c) [] = some (w', k') := by rfl) : codeQ P O c Q ⟨s, σ⟩ := nx_ok (w := .c c) (k := []) hn (kk h s σ hS hH)
theorem ff_ne : ¬ (false = true) := by simp
end
section
variable {P : Program} {O : aM_} {ops : Array Oper} {m : Mo} {l : List Oper} {K : Fr → Prop} {σ0 : St} {L L' : List (Nat × T)} {es es' : List Ent} {p q : Prop} {G : Fr → Prop} {γ : Type} {r : γ} {x y : Option γ}
variable {Q : aN_ → Fr → Prop} {k k1 k2 : List Ct} {w1 w2 : Wh} {c : Operand} {a b : Code} {t : Bool}
theorem t_if (h1 : t = true → Kn σ0 L es (x = some r) (whQ P O w1 k1 Q)) (h2 : ¬ (t = true) → Kn σ0 L es (y = some r) (whQ P O w2 k2 Q)) (hc : gE (get L) c = some (.bool t) := by rfl) (e1 : nx 99 (.c a) k = some (w1, k1) := by rfl) (e2 : nx 99 (.c b) k = some (w2, k2) := by rfl) : Kn σ0 L es ((if t = true then x else y) = some r) (whQ P O (.c (.cond c a b)) k Q) := fun hp s σ hS hH =>
 mk_ hS hc (fun h => nx_ok (w := .c a) e1 (h1 h (pJ_ h hp) s σ hS hH)) (fun h => have h : ¬ (t = true) := by simp [h]
  nx_ok (w := .c b) e2 (h2 h (pS_ h hp) s σ hS hH))
theorem t_cT (h : t = true) (kk : Kn σ0 L es p (whQ P O w1 k1 Q)) (hc : gE (get L) c = some (.bool t) := by rfl) (e1 : nx 99 (.c a) k = some (w1, k1) := by rfl) : Kn σ0 L es p (whQ P O (.c (.cond c a b)) k Q) := fun hp s σ hS hH =>
 c_cT h hS hc (nx_ok (w := .c a) e1 (kk hp s σ hS hH))
theorem t_cF (h : ¬ (t = true)) (kk : Kn σ0 L es p (whQ P O w1 k1 Q)) (hc : gE (get L) c = some (.bool t) := by rfl) (e1 : nx 99 (.c b) k = some (w1, k1) := by rfl) : Kn σ0 L es p (whQ P O (.c (.cond c a b)) k Q) := fun hp s σ hS hH =>
 c_cF h hS hc (nx_ok (w := .c b) e1 (kk hp s σ hS hH))
theorem aQ_ (d : Nat) (h1 : t = true → Kn σ0 ((d, .bool true) :: L) es (x = some r) G) (h2 : ¬ (t = true) → Kn σ0 ((d, .bool false) :: L) es (y = some r) G) (hc : get L d = some (.bool t) := by rfl) : Kn σ0 L es ((if t = true then x else y) = some r) G := fun hp s σ hS hH => by
 have e := hS d _ hc
 by_cases h : t = true
 ·exact h1 h (pJ_ h hp) s σ (hR_ hS (by rw [e, h])) hH
 ·exact h2 h (pS_ h hp) s σ (hR_ hS (by rw [e]; simp at h; rw [h])) hH
theorem t_gT (d : Nat) (h : t = true) (kk : Kn σ0 ((d, .bool true) :: L) es p G) (hc : get L d = some (.bool t) := by rfl) : Kn σ0 L es p G := fun hp s σ hS hH => kk hp s σ (hR_ hS (by rw [hS d _ hc, h])) hH
theorem t_gF (d : Nat) (h : ¬ (t = true)) (kk : Kn σ0 ((d, .bool false) :: L) es p G) (hc : get L d = some (.bool t) := by rfl) : Kn σ0 L es p G := fun hp s σ hS hH => kk hp s σ (hR_ hS (by rw [hS d _ hc]; simp at h; rw [h])) hH
theorem t_no : Kn σ0 L es ((none : Option γ) = some r) G := fun h => by cases h
end
end Go.Am
end
