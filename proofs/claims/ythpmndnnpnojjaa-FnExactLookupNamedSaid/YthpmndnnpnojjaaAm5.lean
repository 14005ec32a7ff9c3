/- The abstract machine. -/
import Derived.Test.YthpmndnnpnojjaaAm4
import Derived.Test.YthpmndnnpnojjaaAm2
section
set_option linter.unusedVariables false
set_option linter.unusedSimpArgs false
namespace Go.Am
open Classical
theorem Heap.wrap {σ0 σ : St} {ents E : List Ent} (h : Heap σ0 σ (ents ++ E)) : ∃ F, Heap σ0 σ (ents ++ [.keep F σ]) ∧ ∀ σ' ents', Heap σ0 σ' (ents' ++ [.keep F σ]) → Heap σ0 σ' (ents' ++ E) := by
 obtain ⟨F, h1, h2, h3⟩ := h.ex
 obtain ⟨F1, F2, rfl, h4, h5⟩ := h1.split
 refine ⟨F2, ⟨h.grow, F1 ++ F2, h4.join ⟨F2, [], by simp, ⟨rfl, fun b hb => ⟨rfl, h5.some b hb⟩⟩, rfl⟩, h2, h3⟩, fun σ' ents' k => ?_⟩
 obtain ⟨G, k1, k2, k3⟩ := k.ex
 obtain ⟨G1, G2, rfl, k4, k5⟩ := k1.split
 obtain ⟨S, F', rfl, ⟨rfl, k6⟩, k7⟩ := k5
 cases k7
 simp only [List.append_nil] at k2 k3
 exact ⟨k.grow, G1 ++ S, k4.join (h5.same fun b hb => (k6 b hb).1), k2, k3⟩
section
variable {P : Program} {md : Nat → Md} {X : Ext} {f : Nat}
variable {ops : Array Oper} {m : Mo} {l : List Oper} {K : Fr → Prop} {s : Nat → T} {σ σ0 : St} {L : List (Nat × T)} {es ents : List Ent}
variable {d : Option Nat} {ty : TypeId} {ps : String} {af : Array Edge} {g : Option (Nat × Bool)}
def RawS (P : Program) (md : Nat → Md) (X : Ext) (f : Nat) (args : List T) (n : Nat) (tree : List T → T) (ents : List Ent) (ents' : List T → List Ent) : Prop :=
 ∀ σ0 σ E, Heap σ0 σ (ents ++ E) → ∃ hs σ', hs.length = n ∧ run P md X f args σ = some (tree hs, σ') ∧ Heap σ0 σ' (ents' hs ++ E)
def endM (P : Program) (rs : List ResultVar) (σ0 : St) (n : Nat) (tree : List T → T) (ents' : List T → List Ent) : aB_ → Fr → Prop
 | .exit _, _ => False
 | .normal, fr => ∃ l hs, resL P fr rs = some l ∧ tupOf l = tree hs ∧ hs.length = n ∧ Heap σ0 fr.σ (ents' hs)
 | .ret, fr => ∃ l hs, resL P fr rs = some l ∧ tupOf l = tree hs ∧ hs.length = n ∧ Heap σ0 fr.σ (ents' hs)
theorem lC_ {rs : List ResultVar} {l : List T} {n : Nat} {tree : List T → T} {ents' : List T → List Ent} (hs : List T) (hl : resL P ⟨s, σ⟩ rs = some l) (ht : tupOf l = tree hs) (hn : hs.length = n) (hH : Heap σ0 σ (ents' hs)) : endM P rs σ0 n tree ents' .ret ⟨s, σ⟩ := ⟨l, hs, hl, ht, hn, hH⟩
theorem h0_ {c : Code} {n0 n : Nat} {rs : List ResultVar} {args : List T} {tree : List T → T} {ents' : List T → List Ent} (hv : md f = .raw) (hX : X f = none) (hok : Ok P f c n0 rs) (hlen : Nat.ble args.length n0 = true)
  (h : ∀ σ0 σ F σk s, Sub (nums 0 args) s → Heap σ0 σ (ents ++ [.keep F σk]) → codeQ P (run P md X) c (endM P rs σ0 n tree (fun hs => ents' hs ++ [.keep F σk])) ⟨s, σ⟩) : RawS P md X f args n tree ents ents' := fun σ0 σ E hH => by
 obtain ⟨F, h1, h2⟩ := hH.wrap
 obtain ⟨fn, k1, k2, k3, k4, k5, k6⟩ := hok
 obtain ⟨x, fr, m1, m2⟩ := codeQ_sound (h σ0 σ F σ _ (eK_ args) h1)
 have hx : (x = .normal ∨ x = .ret) ∧ ∃ l hs, resL P fr rs = some l ∧ tupOf l = tree hs ∧ hs.length = n ∧ Heap σ0 fr.σ (ents' hs ++ [.keep F σ]) := by
  cases x with
  | normal => exact ⟨.inl rfl, m2⟩
  | ret => exact ⟨.inr rfl, m2⟩
  | exit i => exact m2.elim
 obtain ⟨hx, l, hs, q1, q2, q3, q4⟩ := hx
 refine ⟨hs, fr.σ, q3, ?_, h2 _ _ q4⟩
 rw [jB_ (P := P) (vm := md) (X := X) (σ := σ) hv hX k1 k2 k3 k4 (by rw [k5]; exact Nat.le_of_ble_eq_true hlen) m1 hx (by rw [resA, k6, q1]; rfl), q2]
theorem fW_ {fo : Operand} {as : Array Operand} {tys : Array TypeId} {a b xs : List T} {n : Nat} {tree : List T → T} {ents' : List T → List Ent} (hw : want ops L g = some true) (hS : Sub L s) (hf : gE (get L) fo = some (.fn f a b)) (ha : gEs (get L) as.toList = some xs)
  (hH : Heap σ0 σ (ents ++ es)) (hr : RawS P md X f (a ++ xs ++ b) n tree ents ents')
  (k : ∀ hs σ' s', hs.length = n → Heap σ0 σ' (ents' hs ++ es) → Sub (putL L d (tree hs)) s' → opsX P (run P md X) ops .q l K ⟨s', σ'⟩) : opsX P (run P md X) ops .q (⟨d, .call ⟨.value fo, as, tys⟩, ty, ps, af, g⟩ :: l) K ⟨s, σ⟩ := by
 obtain ⟨hs, σ', h1, h2, h3⟩ := hr σ0 σ es hH
 refine jq_ (f := f) (args := a ++ xs ++ b) (aK_ hS hw) (by rw [iU_, cz_ hS ha, Option.bind_some, ap_ hS hf]; rfl) h2 ?_
 rw [b9_]
 exact k _ _ _ h1 h3 (a1_ hS d _ σ)
def endI (P : Program) (rs : List ResultVar) (K : T → St → Prop) : aB_ → Fr → Prop
 | .exit _, _ => False
 | .normal, fr => ∃ l, resL P fr rs = some l ∧ K (tupOf l) fr.σ
 | .ret, fr => ∃ l, resL P fr rs = some l ∧ K (tupOf l) fr.σ
theorem lY_ {rs : List ResultVar} {l : List T} {K : T → St → Prop} {v : T} (hl : resL P ⟨s, σ⟩ rs = some l) (ht : tupOf l = v) (h : K v σ) : endI P rs K .ret ⟨s, σ⟩ := ⟨l, hl, ht ▸ h⟩
theorem mO_ {fo : Operand} {as : Array Operand} {tys : Array TypeId} {a b xs : List T} {c : Code} {n0 : Nat} {rs : List ResultVar} (args : List T) (hw : want ops L g = some true) (hS : Sub L s) (hf : gE (get L) fo = some (.fn f a b)) (ha : gEs (get L) as.toList = some xs)
  (hab : a ++ xs ++ b = args) (hv : md f = .raw) (hX : X f = none) (hok : Ok P f c n0 rs) (hlen : Nat.ble args.length n0 = true)
  (h : ∀ s1, Sub (nums 0 args) s1 → codeQ P (run P md X) c (endI P rs fun v σ' => ∀ s', Sub (putL L d v) s' → opsX P (run P md X) ops .q l K ⟨s', σ'⟩) ⟨s1, σ⟩) : opsX P (run P md X) ops .q (⟨d, .call ⟨.value fo, as, tys⟩, ty, ps, af, g⟩ :: l) K ⟨s, σ⟩ := by
 subst hab
 obtain ⟨fn, k1, k2, k3, k4, k5, k6⟩ := hok
 obtain ⟨x, fr, m1, m2⟩ := codeQ_sound (h _ (eK_ _))
 have hx : (x = .normal ∨ x = .ret) ∧ ∃ l1, resL P fr rs = some l1 ∧ ∀ s', Sub (putL L d (tupOf l1)) s' → opsX P (run P md X) ops .q l K ⟨s', fr.σ⟩ := by
  cases x with
  | normal => exact ⟨.inl rfl, m2⟩
  | ret => exact ⟨.inr rfl, m2⟩
  | exit i => exact m2.elim
 obtain ⟨hx, l1, q1, q2⟩ := hx
 refine jq_ (f := f) (args := a ++ xs ++ b) (v := tupOf l1) (σ' := fr.σ) (aK_ hS hw) (by rw [iU_, cz_ hS ha, Option.bind_some, ap_ hS hf]; rfl)
  (jB_ (P := P) (vm := md) (X := X) (σ := σ) hv hX k1 k2 k3 k4 (by rw [k5]; exact Nat.le_of_ble_eq_true hlen) m1 hx (by rw [resA, k6, q1]; rfl)) ?_
 rw [b9_]
 exact q2 _ (a1_ hS d _ σ)
theorem mE_ {HF : (Nat → T) → St → Prop} {fo : Operand} {as : Array Operand} {tys : Array TypeId} {a b xs : List T} {c : Code} {n0 : Nat} {rs : List ResultVar} (args : List T) (hw : want ops L g = some true) (hS : Sub L s) (hf : gE (get L) fo = some (.fn f a b)) (ha : gEs (get L) as.toList = some xs)
  (hab : a ++ xs ++ b = args) (hv : md f = .raw) (hX : X f = none) (hok : Ok P f c n0 rs) (hlen : Nat.ble args.length n0 = true)
  (h : ∀ s1, Sub (nums 0 args) s1 → codeQ P (run P md X) c (endI P rs fun v σ' => ∀ s', Sub (putL L d v) s' → HF s' σ') ⟨s1, σ⟩)
  (k : ∀ s' σ', HF s' σ' → opsX P (run P md X) ops .q l K ⟨s', σ'⟩) : opsX P (run P md X) ops .q (⟨d, .call ⟨.value fo, as, tys⟩, ty, ps, af, g⟩ :: l) K ⟨s, σ⟩ :=
 mO_ args hw hS hf ha hab hv hX hok hlen fun s1 h1 => codeQ_mono (fun x fr hx => by
  cases x with
  | exit i => exact hx
  | normal => obtain ⟨l, e1, e2⟩ := hx; exact ⟨l, e1, fun s' hs => k _ _ (e2 s' hs)⟩
  | ret => obtain ⟨l, e1, e2⟩ := hx; exact ⟨l, e1, fun s' hs => k _ _ (e2 s' hs)⟩) (h s1 h1)
end
def hF_ (s : ByteArray) : Option (Sl (Iv .u8)) := if 1 ≤ s.size ∧ s.size ≤ 1099511627776 then some ⟨false, s.data.toList.map fun b => ⟨b.toNat⟩⟩ else none
def ofIv : List (Iv .u8) → Option (List UInt8)
 | [] => some []
 | x :: l => if 0 ≤ x.v ∧ x.v < 256 then (ofIv l).map (UInt8.ofNat x.v.toNat :: ·) else none
def strS (a : Sl (Iv .u8)) : Option ByteArray := (ofIv a.l).map fun l => ⟨l.toArray⟩
theorem ofIv_cells : ∀ l : List (Iv .u8), ofBytes (an_ l) = ofIv l
 | [] => rfl
 | x :: l => by
  show ofBytes (.int .u8 x.v :: an_ l) = _
  simp only [ofBytes, ofIv, ofIv_cells l]
theorem hv_ (s : ByteArray) : cw_ s = an_ (s.data.toList.map fun b => (⟨b.toNat⟩ : Iv .u8)) := by
 unfold cw_
 generalize s.data.toList = l
 induction l with
 | nil => rfl
 | cons b l ih => simp only [List.map_cons, an_]; rw [ih]; rfl
section
variable {P : Program} {O : aO_}
variable {ops : Array Oper} {m : Mo} {l : List Oper} {K : Fr → Prop} {s : Nat → T} {σ σ0 : St} {L : List (Nat × T)} {es ents : List Ent}
variable {d : Option Nat} {ty : TypeId} {ps : String} {af : Array Edge} {g : Option (Nat × Bool)}
theorem i4_ {σ : St} {src dst : TypeId} {w : ByteArray} : fn_ P none σ src dst (.str w) = if aD_ P src = 3 then if aD_ P dst = 3 then some (.str w, σ) else (av_ P dst).bind fun e => if aD_ P e = 10 ∧ w.size ≤ 2 ^ 40 ∧ σ.okK none = true then some (.ref (σ.nid none) 0 0 w.size, σ.pushK none (aG_ (cw_ w) 1)) else none else none := rfl
theorem hh_ {σ : St} {src dst e : TypeId} {x : T} {n : Nat} {cs : List T} {l : List UInt8} (hx : isTop x = true) (h1 : aD_ P dst = 3) (he : av_ P src = some e) (h3 : aD_ P e = 10) (hc : cellsOf σ x = some (n, cs)) (hn : cs.length = n) (hb : ofBytes cs = some l) : fn_ P none σ src dst x = some (.str ⟨l.toArray⟩, σ) := by
 have key : fn_ P none σ src dst x = if aD_ P dst = 3 then (av_ P src).bind fun e => if aD_ P e = 10 then (cellsOf σ x).bind fun (n, cs) => if cs.length = n then (ofBytes cs).map fun l => (.str ⟨l.toArray⟩, σ) else none else none else none := by
  cases x <;> first | rfl | (simp [isTop] at hx; done)
 rw [key, if_pos h1, he, Option.bind_some, if_pos h3, hc, Option.bind_some]
 simp only
 rw [if_pos hn, hb]; rfl
theorem oG_ {x : Operand} {src dst e : TypeId} {w : ByteArray} {r : Sl (Iv .u8)} (hw : want ops L g = some true) (hS : Sub L s) (hH : Heap σ0 σ es) (hx : gE (get L) x = some (.str w)) (hk : (Nat.beq (aD_ P src) 3 && !Nat.beq (aD_ P dst) 3) = true) (he : av_ P dst = some e) (hke : Nat.beq (aD_ P e) 10 = true) (hr : hF_ w = some r)
  (k : ∀ t' σ' s', bu_ t' → Heap σ0 σ' (.own true 1 t' r.t :: es) → Sub (putL L d t') s' → opsX P O ops .q l K ⟨s', σ'⟩) : opsX P O ops .q (⟨d, .convert src dst x, ty, ps, af, g⟩ :: l) K ⟨s, σ⟩ := by
 unfold hF_ at hr
 split at hr
 ·rename_i hb
  injection hr with hr; subst hr
  simp only [Bool.and_eq_true, Bool.not_eq_true'] at hk
  have h1 := Nat.eq_of_beq_eq_true hk.1; have h2 := Nat.ne_of_beq_eq_false hk.2; have h3 := Nat.eq_of_beq_eq_true hke
  refine k3_ (v := .ref σ.next 0 0 w.size) (σ' := σ.pushK none (aG_ (cw_ w) 1)) (aK_ hS hw) ?_ ?_
  ·rw [fZ_, ap_ hS hx, Option.bind_some]
   rw [i4_, if_pos h1, if_neg h2, he, Option.bind_some, if_pos ⟨h3, by omega, rfl⟩]; rfl
  ·rw [b9_]
   refine k _ _ _ ⟨rfl, rfl⟩ ?_ (a1_ hS d _ σ)
   have hl : (w.data.toList.map fun b => (⟨b.toNat⟩ : Iv .u8)).length = w.size := by rw [List.length_map, Array.length_toList]; rfl
   have hrow : Sl.t (⟨false, w.data.toList.map fun b => ⟨b.toNat⟩⟩ : Sl (Iv .u8)) = .row false w.size (an_ (w.data.toList.map fun b => (⟨b.toNat⟩ : Iv .u8))) := by
    show T.row false (List.length _) _ = _; rw [hl]
   rw [hrow, hv_]
   refine Heap.mkRow (ents := []) hH (by decide) (by omega) (by rw [cellsL_len, hl]; rfl) (cellsL_one _) ?_
   generalize w.data.toList = l
   induction l with
   | nil => exact .nil
   | cons b l ih => exact .leaf (fun σ d => by cases d <;> rfl) ih
 ·cases hr
theorem oy_ {z : Bool} {wd : Nat} {x : Operand} {src dst e : TypeId} {t1 : T} {a : Sl (Iv .u8)} {r : ByteArray} (hw : want ops L g = some true) (hS : Sub L s) (hH : Heap σ0 σ (.own z wd t1 a.t :: es)) (hx : gE (get L) x = some t1) (hk : Nat.beq (aD_ P dst) 3 = true) (he : av_ P src = some e) (hke : Nat.beq (aD_ P e) 10 = true) (hr : strS a = some r)
  (k : ∀ s', Sub (putL L d (.str r)) s' → opsX P O ops .q l K ⟨s', σ⟩) : opsX P O ops .q (⟨d, .convert src dst x, ty, ps, af, g⟩ :: l) K ⟨s, σ⟩ := by
 obtain ⟨S, ⟨ht, hwd, k', h2⟩, _, _⟩ := hH.head
 have ea : a.t = .row a.z a.l.length (an_ a.l) := rfl
 rw [ea] at h2
 have hone : Enc.w (Iv .u8) = 1 := rfl
 obtain ⟨l0, h4, h5⟩ := Option.map_eq_some_iff.1 hr
 have h1 := Nat.eq_of_beq_eq_true hk; have h3 := Nat.eq_of_beq_eq_true hke
 have hof : ∀ cs, cs = an_ a.l → ofBytes cs = some l0 := fun cs h => by rw [h, ofIv_cells, h4]
 have leaf : ∀ {k : Nat} (as : List (Iv .u8)) (ts : List T) (S : List Nat), frzL (hold z σ k) ts = some (an_ as, S) → ts = an_ as := by
  intro k as
  induction as with
  | nil => intro ts S h; have := eA_ h; exact List.length_eq_zero_iff.1 (by simpa [an_] using this.symm)
  | cons x as ih =>
   intro ts S h
   have h : frzL (hold z σ k) ts = some (.int .u8 x.v :: an_ as, S) := h
   cases ts with
   | nil => simp [frzL] at h
   | cons t ts =>
    simp only [frzL] at h
    obtain ⟨⟨p1, p2⟩, q1, q2⟩ := Option.bind_eq_some_iff.1 h
    obtain ⟨⟨r1, r2⟩, q3, q4⟩ := Option.map_eq_some_iff.1 q2
    injection q4 with q4 _
    injection q4 with e1 e2
    subst e1; subst e2
    have := kU_ (z := z) (k := .u8) (n := x.v) σ k t p2 q1
    rw [this, ih ts r2 q3]; rfl
 have hconv : fn_ P none σ src dst t1 = some (.str r, σ) := by
  subst h5
  rcases cH_ ht h2 with ⟨rfl, hz, hn0, hcs, rfl⟩ | ⟨rfl, hz, hn0, hcs, rfl⟩ | ⟨hzz, x', B, S', k'', rfl, hB, c1, c3, c5, c6, c7, h3', rfl⟩
  ·exact hh_ ht h1 he h3 (n := 0) (cs := []) rfl rfl (hof _ hcs.symm)
  ·exact hh_ ht h1 he h3 (n := 0) (cs := []) rfl rfl (hof _ hcs.symm)
  ·have e1 : (B.cells.drop 0).take (a.l.length * B.esz) = B.cells := by rw [List.drop_zero, ← c5, List.take_length]
   have e2 : B.cells = an_ a.l := leaf _ _ _ h3'
   refine hh_ ht h1 he h3 (n := a.l.length) (cs := B.cells) ?_ (by rw [e2, cellsL_len, hone, Nat.mul_one]) (hof _ e2)
   simp only [cellsOf, hB, Option.bind_some, if_pos c3, e1]
 refine k3_ (v := .str r) (σ' := σ) (aK_ hS hw) (by rw [fZ_, ap_ hS hx, Option.bind_some, hconv]; rfl) ?_
 rw [b9_]
 exact k _ (a1_ hS d _ σ)
end
theorem jk_ {σ : St} {k : Nat} {t : T} {z : Bool} {n : Nat} {cs : List T} {S : List Nat} (h : hold true σ k t = some (.row z n cs, S)) : isTop t = true := by
 cases t with
 | row zz m us => cases zz <;> cases m <;> cases us <;> first | rfl | (cases k <;> simp [hold] at h)
 | agg us => cases k <;> simp [hold] at h
 | tup us => cases k <;> simp [hold] at h
 | ref b e off n => rfl
 | emp => rfl
 | _ => cases k <;> simp [hold] at h
section
variable {P : Program} {O : aO_}
variable {ops : Array Oper} {m : Mo} {l : List Oper} {K : Fr → Prop} {s : Nat → T} {σ σ0 : St} {L : List (Nat × T)} {es ents : List Ent}
variable {d : Option Nat} {ty : TypeId} {ps : String} {af : Array Edge} {g : Option (Nat × Bool)}
theorem Heap.lens {α β : Type} [Enc α] [Enc β] {w : Nat} {t1 : T} {a : Sl α} {j : Int} {y : α} {b ep off : Nat} {c : List T} {q : Sl β} (hH : Heap σ0 σ (.own true w t1 a.t :: es)) (hr : t1 = .ref b ep 0 a.l.length)
  (hy : elt a j = some y) (hc : Enc.cells y = c) (hv : c[off]? = some q.t) :
  ∃ F t' B S', bu_ t' ∧ Heap σ0 σ (.own true 0 t' q.t :: .keep F σ :: es) ∧
   (∀ (σ1 : St) (es1 : List Ent) (q' : Sl β) (y' : α), Enc.cells y' = c.take off ++ q'.t :: c.drop (off + 1) → Heap σ0 σ1 (.own true 0 t' q'.t :: .keep F σ :: es1) → Heap σ0 σ1 (.own true w t1 (setS a j y').t :: es1)) ∧
   (∀ (σ1 : St) (es1 : List Ent), Heap σ0 σ1 (.own true 0 t' q.t :: .keep F σ :: es1) → Heap σ0 σ1 (.own true w t1 a.t :: es1)) ∧
   (∀ (σ1 : St) (es1 : List Ent) (w2 : Nat) (t2 : T) (q2 : Sl β) (y' : α), Enc.cells y' = c.take off ++ q2.t :: c.drop (off + 1) → Heap σ0 σ1 (.own true w2 t2 q2.t :: .keep F σ :: es1) → ∃ B1, σ1.blk b = some B1 ∧ B1.st = true ∧ ep = B1.ep ∧ j.toNat * Enc.w α + off + 1 ≤ B1.cells.length ∧ Heap σ0 (σ1.set b { B1 with cells := splice B1.cells (j.toNat * Enc.w α + off) [t2], low := B1.ep, ver := B1.ver + 1 }) (.own true w t1 (setS a j y').t :: es1)) ∧
   b ∈ F ∧ σ.blk b = some B ∧ ep = B.ep ∧ B.low ≤ B.ep ∧ B.cells.drop (j.toNat * Enc.w α + off) = t' :: B.cells.drop (j.toNat * Enc.w α + off + 1) ∧ B.cells.all T.one = true ∧ ∃ k, frzL (hold true σ k) B.cells = some (an_ a.l, S') := by
 obtain ⟨q1, q2, q3⟩ := eZ_ hy
 obtain ⟨S, ⟨ht, hwd, k', h2⟩, hnd0, _⟩ := hH.head
 have ea : a.t = .row a.z a.l.length (an_ a.l) := rfl
 rw [ea] at h2
 rcases cH_ ht h2 with ⟨rfl, hz, hn0, hcs, rfl⟩ | ⟨rfl, hz, hn0, hcs, rfl⟩ | ⟨hzz, x', B, S', k'', rfl, hB, c1, c3, c5, c6, c7, h3, rfl⟩
 ·cases hr
 ·cases hr
 injection hr with e1 e2 _ _
 subst e1; subst e2
 obtain ⟨pos, hpos⟩ : ∃ pos, pos = j.toNat * Enc.w α + off := ⟨_, rfl⟩
 have hoff : off < c.length := (List.getElem?_eq_some_iff.1 hv).1
 have hcl : c.length = Enc.w α := by rw [← hc, Enc.len]
 have hdrop : (an_ a.l).drop pos = q.t :: (an_ a.l).drop (pos + 1) := by
  have hd := e1_ a.l j.toNat y q3
  rw [hc] at hd
  have e : ∀ m, (an_ a.l).drop (j.toNat * Enc.w α + m) = (c ++ an_ (a.l.drop (j.toNat + 1))).drop m := fun m => by rw [← List.drop_drop, hd]
  rw [hpos, e off, Nat.add_assoc, e (off + 1), List.drop_eq_getElem_cons (by simp; omega)]
  congr 1
  rw [List.getElem_append_left hoff]
  exact (List.getElem?_eq_some_iff.1 hv).2
 obtain ⟨G1, G2, rfl, h4, h5⟩ := el_ pos h3
 rw [hdrop] at h5
 have hlen : B.cells.drop pos ≠ [] := fun h => by rw [h] at h5; simp [frzL] at h5
 obtain ⟨t', cr, hcr⟩ := List.exists_cons_of_ne_nil hlen
 have hcr2 : cr = B.cells.drop (pos + 1) := by rw [← List.drop_drop, hcr]; rfl
 rw [hcr] at h5
 simp only [frzL] at h5
 obtain ⟨⟨v0, G3⟩, h6, h7⟩ := Option.bind_eq_some_iff.1 h5
 obtain ⟨⟨vs, G4⟩, h8, h9⟩ := Option.map_eq_some_iff.1 h7
 injection h9 with h9 h10; injection h9 with h9 h11
 subst h9; subst h10; subst h11
 have htop : isTop t' = true := jk_ h6
 have hperm : ∀ X : List Nat, (X ++ (x' :: (G1 ++ G4))).Perm (x' :: (G1 ++ (X ++ G4))) := fun X =>
  List.perm_middle.trans (List.Perm.cons _ (by rw [← List.append_assoc, ← List.append_assoc]; exact List.perm_append_comm.append_right _))
 have hcells : ∀ (q' : Sl β) (y' : α), Enc.cells y' = c.take off ++ q'.t :: c.drop (off + 1) → an_ (setS a j y').l = (an_ a.l).take pos ++ ([q'.t] ++ (an_ a.l).drop (pos + 1)) := fun q' y' hy' => by
  simp only [setS]
  rw [fl_ a.l j.toNat y y' q3, hy', hpos]
  have hd := e1_ a.l j.toNat y q3
  rw [hc] at hd
  have hsplit : an_ a.l = (an_ a.l).take (j.toNat * Enc.w α) ++ (c ++ an_ (a.l.drop (j.toNat + 1))) := by rw [← hd, List.take_append_drop]
  have hl0 : ((an_ a.l).take (j.toNat * Enc.w α)).length = j.toNat * Enc.w α := by
   rw [List.length_take, cellsL_len]
   have : (j.toNat + 1) * Enc.w α ≤ a.l.length * Enc.w α := Nat.mul_le_mul_right _ (by omega)
   rw [Nat.succ_mul] at this; omega
  generalize (an_ a.l).take (j.toNat * Enc.w α) = A at hsplit hl0
  generalize an_ (a.l.drop (j.toNat + 1)) = R at hsplit
  rw [hsplit]
  have := gw_ A c R [q'.t] (j.toNat * Enc.w α) off 1 (Enc.w α) hl0 hcl (by omega)
  simp only [List.append_assoc, List.singleton_append, List.cons_append, List.nil_append, List.drop_drop] at this ⊢
  rw [this]
 have hclose : ∀ (σ1 : St) (es1 : List Ent) (q' : Sl β) (y' : α), Enc.cells y' = c.take off ++ q'.t :: c.drop (off + 1) → Heap σ0 σ1 (.own true 0 t' q'.t :: .keep (x' :: (G1 ++ G4)) σ :: es1) → Heap σ0 σ1 (.own true w (.ref x' B.ep 0 a.l.length) (setS a j y').t :: es1) := by
  intro σ1 es1 q' y' hy' hH1
  refine Heap.step (es1 := [.own true 0 t' q'.t, .keep (x' :: (G1 ++ G4)) σ]) (es2 := [.own true w (.ref x' B.ep 0 a.l.length) (setS a j y').t]) (es := es1) hH1 (Nat.le_refl _) fun F hF hnd hbd => ?_
  obtain ⟨S1, F1, rfl, ⟨_, _, k5, h12⟩, S2, F2, rfl, ⟨rfl, hkeep⟩, hnil⟩ := hF
  cases hnil
  rw [List.append_nil] at hnd
  have hkeep := fun b hb => (hkeep b hb).1
  have cg : ∀ {ts ws : List T} {G : List Nat}, (∀ x ∈ G, x ∈ G1 ++ G4) → frzL (hold true σ k'') ts = some (ws, G) → frzL (hold true σ1 k'') ts = some (ws, G) := fun hG h =>
   au_ (fun t v S'' _ hq hq2 => bG_ k'' t v S'' (fun x hx => hkeep x (by simp only [List.mem_cons]; exact .inr (hG _ (hq2 _ hx)))) hq) h
  have r1 := cg (fun x hx => by simp [hx]) h4
  have r2 := cg (fun x hx => by simp [hx]) h8
  have r0 : frzL (hold true σ1 k5) [t'] = some ([q'.t], S1) := by simp [frzL, h12]
  have r3 := a7_ (aP_ (Nat.le_max_left k'' k5) r1) (a7_ (aP_ (Nat.le_max_right k'' k5) r0) (aP_ (Nat.le_max_left k'' k5) r2))
  have hB1 : σ1.blk x' = some B := by rw [hkeep x' (by simp), hB]
  refine ⟨x' :: (G1 ++ (S1 ++ G4)), ⟨x' :: (G1 ++ (S1 ++ G4)), [], by simp, ⟨rfl, fun b e o n B' h hB' hw0 => ?_, max k'' k5 + 1, ?_⟩, rfl⟩, (hperm S1).nodup_iff.1 hnd, fun b hb => .inl ?_, fun _ _ _ => rfl⟩
  ·injection h with h; subst h
   rw [hB1] at hB'; injection hB' with hB'; subst hB'
   exact hwd _ _ _ _ _ rfl hB hw0
  ·have hll : (setS a j y').l.length = a.l.length := by simp [setS]
   have e3 : List.take pos B.cells ++ ([t'] ++ cr) = B.cells := by
    rw [List.singleton_append, ← hcr, List.take_append_drop]
   rw [e3] at r3
   have hz : (setS a j y').z = false := hzz
   simp only [hold, hB1, Option.bind_some, Sl.t, hll, hcells q' y' hy', hz]
   rw [if_pos ⟨fun _ => c1 rfl, trivial, c3, trivial, c5, c6, c7, by omega⟩, r3]; rfl
  ·rw [List.append_nil]; exact (hperm S1).mem_iff.2 hb
 have hput : ∀ (σ1 : St) (es1 : List Ent) (w2 : Nat) (t2 : T) (q2 : Sl β) (y' : α), Enc.cells y' = c.take off ++ q2.t :: c.drop (off + 1) → Heap σ0 σ1 (.own true w2 t2 q2.t :: .keep (x' :: (G1 ++ G4)) σ :: es1) → ∃ B1, σ1.blk x' = some B1 ∧ B1.st = true ∧ B.ep = B1.ep ∧ j.toNat * Enc.w α + off + 1 ≤ B1.cells.length ∧ Heap σ0 (σ1.set x' { B1 with cells := splice B1.cells (j.toNat * Enc.w α + off) [t2], low := B1.ep, ver := B1.ver + 1 }) (.own true w (.ref x' B.ep 0 a.l.length) (setS a j y').t :: es1) := by
  intro σ1 es1 w2 t2 q2 y' hy' hH1
  have hB1 : σ1.blk x' = some B := by
   obtain ⟨Sk, ⟨rfl, hkp⟩, _⟩ := (hH1.at 1 rfl).head
   rw [(hkp x' (by simp)).1, hB]
  have hplen : pos + 1 ≤ B.cells.length := by
   have := congrArg List.length hcr
   simp only [List.length_drop, List.length_cons] at this; omega
  refine ⟨B, hB1, c1 rfl, rfl, by rw [← hpos]; exact hplen, ?_⟩
  rw [← hpos]
  refine Heap.step (es1 := [.own true w2 t2 q2.t, .keep (x' :: (G1 ++ G4)) σ]) (es2 := [.own true w (.ref x' B.ep 0 a.l.length) (setS a j y').t]) (es := es1) hH1 (by simp) fun F hF hnd hbd => ?_
  obtain ⟨S1, F1, rfl, ⟨htop2, _, k5, h12⟩, S2, F2, rfl, ⟨rfl, hkeep⟩, hnil⟩ := hF
  cases hnil
  rw [List.append_nil] at hnd
  have hkeep := fun b hb => (hkeep b hb).1
  obtain ⟨n1, n2, n3⟩ := List.nodup_append.1 hnd
  have hx1 : x' ∉ S1 := fun h => n3 x' h x' (by simp) rfl
  have hx2 : x' ∉ G1 ++ G4 := (List.nodup_cons.1 n2).1
  have hs : ∀ b, b ≠ x' → (σ1.set x' { B with cells := splice B.cells pos [t2], low := B.ep, ver := B.ver + 1 }).blk b = σ1.blk b := fun b hb => by rw [bI_, if_neg hb]
  have cg : ∀ {ts ws : List T} {G : List Nat}, (∀ x ∈ G, x ∈ G1 ++ G4) → frzL (hold true σ k'') ts = some (ws, G) → frzL (hold true (σ1.set x' { B with cells := splice B.cells pos [t2], low := B.ep, ver := B.ver + 1 }) k'') ts = some (ws, G) := fun hG h =>
   au_ (fun t v S'' _ hq hq2 => bG_ k'' t v S'' (fun x hx => by
    have hxG := hG _ (hq2 _ hx)
    rw [hs x fun e => by subst e; exact hx2 hxG]
    exact hkeep x (by simp only [List.mem_cons]; exact .inr hxG)) hq) h
  have r1 := cg (fun x hx => by simp [hx]) h4
  have r2 := cg (fun x hx => by simp [hx]) h8
  have h13 : hold true (σ1.set x' { B with cells := splice B.cells pos [t2], low := B.ep, ver := B.ver + 1 }) k5 t2 = some (q2.t, S1) := bG_ k5 t2 q2.t S1 (fun x hx => hs x fun e => by subst e; exact hx1 hx) h12
  have r0 : frzL (hold true (σ1.set x' { B with cells := splice B.cells pos [t2], low := B.ep, ver := B.ver + 1 }) k5) [t2] = some ([q2.t], S1) := by
   simp only [frzL, h13, Option.bind_some, Option.map_some, List.append_nil]
  have r3 := a7_ (aP_ (Nat.le_max_left k'' k5) r1) (a7_ (aP_ (Nat.le_max_right k'' k5) r0) (aP_ (Nat.le_max_left k'' k5) r2))
  refine ⟨x' :: (G1 ++ (S1 ++ G4)), ⟨x' :: (G1 ++ (S1 ++ G4)), [], by simp, ⟨rfl, fun b e o n B' h hB' hw0 => ?_, max k'' k5 + 1, ?_⟩, rfl⟩, (hperm S1).nodup_iff.1 hnd, fun b hb => .inl ?_, fun b hb hm => hs b fun e => hm (by simp [e])⟩
  ·injection h with h; subst h
   rw [bS_] at hB'; injection hB' with hB'; subst hB'
   exact hwd _ _ _ _ B rfl hB hw0
  ·have hll : (setS a j y').l.length = a.l.length := by simp [setS]
   have e3 : splice B.cells pos [t2] = List.take pos B.cells ++ ([t2] ++ cr) := by
    unfold splice; rw [hcr2, List.append_assoc]; rfl
   have hz : (setS a j y').z = false := hzz
   have hone := (eS_ htop2).2
   have hall : (List.take pos B.cells ++ ([t2] ++ cr)).all T.one = true := by
    rw [List.all_eq_true] at c7
    rw [List.all_eq_true]
    intro x hx
    rcases List.mem_append.1 hx with hx | hx
    ·exact c7 x (List.mem_of_mem_take hx)
    ·rcases List.mem_cons.1 (show x ∈ t2 :: cr from hx) with rfl | hx
     ·exact hone
     ·rw [hcr2] at hx; exact c7 x (List.mem_of_mem_drop hx)
   have hlen2 : (List.take pos B.cells ++ ([t2] ++ cr)).length = a.l.length * B.esz := by
    rw [← c5, hcr2]; simp only [List.length_append, List.length_take, List.length_drop, List.length_singleton]; omega
   simp only [hold, bS_, Option.bind_some, Sl.t, hll, hcells q2 y' hy', hz]
   rw [e3] at r3 ⊢
   rw [if_pos ⟨fun _ => c1 rfl, trivial, Nat.le_refl _, trivial, hlen2, c6, hall, by omega⟩, r3]; rfl
  ·rw [List.append_nil]; exact (hperm S1).mem_iff.2 hb
 have hsame : setS a j y = a := by
  obtain ⟨z, l⟩ := a
  simp only [setS]
  congr 1
  obtain ⟨hi, hy'⟩ := List.getElem?_eq_some_iff.1 q3
  rw [← hy']; exact List.set_getElem_self hi
 have hcy : Enc.cells y = c.take off ++ q.t :: c.drop (off + 1) := by
  obtain ⟨ho, hv'⟩ := List.getElem?_eq_some_iff.1 hv
  rw [hc, ← hv', List.getElem_cons_drop, List.take_append_drop]
 refine ⟨x' :: (G1 ++ G4), t', B, G1 ++ (G3 ++ G4), eS_ htop, ?_, hclose, fun σ1 es1 hh => by have := hclose σ1 es1 q y hcy hh; rwa [hsame] at this, hput, by simp, hB, rfl, c3, ?_, c7, k'', h3⟩
 ·refine Heap.step (es1 := [.own true w (.ref x' B.ep 0 a.l.length) a.t]) (es2 := [.own true 0 t' q.t, .keep (x' :: (G1 ++ G4)) σ]) (es := es) hH (Nat.le_refl _) fun F hF hnd hbd => ?_
  obtain ⟨S1, F1, rfl, ⟨_, _, k5, h12⟩, hnil⟩ := hF
  cases hnil
  have : S1 = x' :: (G1 ++ (G3 ++ G4)) := by
   have e1 := bb_ k' _ _ _ h2 (max k' k5) (Nat.le_max_left _ _)
   have e2 := bb_ k5 _ _ _ h12 (max k' k5) (Nat.le_max_right _ _)
   rw [ea, e1] at e2; injection e2 with e2; injection e2 with _ e2; exact e2.symm
  subst this
  rw [List.append_nil] at hnd
  have hsome : ∀ b ∈ x' :: (G1 ++ G4), (σ.blk b).isSome = true := fun b hb => fM_ h12 b (by simp only [List.mem_cons, List.mem_append] at hb ⊢; rcases hb with h | h | h <;> simp [h])
  refine ⟨G3 ++ ((x' :: (G1 ++ G4)) ++ []), ⟨G3, _, rfl, ⟨htop, fun _ _ _ _ _ _ _ h => absurd rfl h, k'', h6⟩, _, [], rfl, ⟨rfl, fun b hb => ⟨rfl, hsome b hb⟩⟩, rfl⟩, ?_, fun b hb => .inl ?_, fun _ _ _ => rfl⟩
  ·rw [List.append_nil]; exact (hperm G3).nodup_iff.2 hnd
  ·rw [List.append_nil] at hb; rw [List.append_nil]; exact (hperm G3).mem_iff.1 hb
 ·rw [← hpos, hcr, hcr2]
theorem kn_ {α β : Type} [Enc α] [Enc β] {w : Nat} {m : Mo} {ad : Operand} {t : TypeId} {t1 : T} {a : Sl α} {j : Int} {y : α} {b ep off n : Nat} {c : List T} {q : Sl β} (hm : ∀ b e o n, t1 = .ref b e o n → m.lt b) (hw : want ops L g = some true) (hS : Sub L s) (hH : Heap σ0 σ (.own true w t1 a.t :: es)) (hr : t1 = .ref b ep 0 a.l.length)
  (ha : gE (get L) ad = some (.ptr b ep (j.toNat * Enc.w α + off) n)) (hy : elt a j = some y) (hc : Enc.cells y = c) (hag : kD_ P t = some false) (hv : c[off]? = some q.t) (hn : Nat.ble 1 n = true)
  (k : ∀ F σk t' s', bu_ t' → Heap σ0 σ (.own true 0 t' q.t :: .keep F σk :: es) →
   (∀ (σ1 : St) (es1 : List Ent) (q' : Sl β) (y' : α), Enc.cells y' = c.take off ++ q'.t :: c.drop (off + 1) → Heap σ0 σ1 (.own true 0 t' q'.t :: .keep F σk :: es1) → Heap σ0 σ1 (.own true w t1 (setS a j y').t :: es1)) →
   (∀ (σ1 : St) (es1 : List Ent), Heap σ0 σ1 (.own true 0 t' q.t :: .keep F σk :: es1) → Heap σ0 σ1 (.own true w t1 a.t :: es1)) →
   (∀ (σ1 : St) (es1 : List Ent) (w2 : Nat) (t2 : T) (q2 : Sl β) (y' : α), Enc.cells y' = c.take off ++ q2.t :: c.drop (off + 1) → Heap σ0 σ1 (.own true w2 t2 q2.t :: .keep F σk :: es1) → ∃ B1, σ1.blk b = some B1 ∧ B1.st = true ∧ ep = B1.ep ∧ j.toNat * Enc.w α + off + 1 ≤ B1.cells.length ∧ Heap σ0 (σ1.set b { B1 with cells := splice B1.cells (j.toNat * Enc.w α + off) [t2], low := B1.ep, ver := B1.ver + 1 }) (.own true w t1 (setS a j y').t :: es1)) →
   Heap σ0 σk (.own true w t1 a.t :: es) → b ∈ F →
   Sub (putL L d t') s' → opsX P O ops (nxM m) l K ⟨s', σ⟩) : opsX P O ops m (⟨d, .load t ad, ty, ps, af, g⟩ :: l) K ⟨s, σ⟩ := by
 obtain ⟨F, t', B, S', h1, h2, h3, h4, hput, hbF, h5, rfl, h7, h8, _⟩ := Heap.lens hH hr hy hc hv
 refine gW_ hw hS (fun kk σ' ha' => ?_) (fun s' => k F σ t' s' h1 h2 h3 h4 hput hH hbF)
 subst hr
 rw [kw_, ap_ hS ha, Option.bind_some, gc_, Mo.al_blk ha' (hm _ _ _ _ rfl), h5, Option.bind_some, if_pos h7, lQ_, hag, Option.bind_some, h5_, h8]
 have := Nat.le_of_ble_eq_true hn
 obtain ⟨n, rfl⟩ : ∃ k, n = k + 1 := ⟨n - 1, by omega⟩
 simp
end
section
variable {P : Program} {O : aO_}
variable {ops : Array Oper} {m : Mo} {l : List Oper} {K : Fr → Prop} {s : Nat → T} {σ σ0 : St} {L : List (Nat × T)}
variable {d : Option Nat} {ty : TypeId} {ps : String} {af : Array Edge} {g : Option (Nat × Bool)}
end
section
variable {P : Program} {O : aO_}
variable {ops : Array Oper} {m : Mo} {l : List Oper} {K : Fr → Prop} {s : Nat → T} {σ : St} {L : List (Nat × T)}
variable {d : Option Nat} {ty : TypeId} {ps : String} {af : Array Edge} {g : Option (Nat × Bool)}
end
end Go.Am
end
section
set_option linter.unusedVariables false
set_option linter.unusedSimpArgs false
namespace Go.Am
section
variable {P : Program} {O : aO_} {ops : Array Oper} {l : List Oper} {K : Fr → Prop} {s : Nat → T} {σ σ0 : St} {L : List (Nat × T)} {es ents : List Ent}
variable {d : Option Nat} {ty : TypeId} {ps : String} {af : Array Edge} {g : Option (Nat × Bool)}
end
section
variable {P : Program} {md : Nat → Md} {X : Ext} {ops : Array Oper} {m : Mo} {l : List Oper} {K : Fr → Prop} {s : Nat → T} {σ σ0 : St} {L : List (Nat × T)} {es ents : List Ent} {f : Nat}
variable {d : Option Nat} {ty : TypeId} {ps : String} {af : Array Edge} {g : Option (Nat × Bool)}
def Stay (R : List Nat) (es : List Ent) : Prop := ∀ x ∈ R, ∃ c, Ent.box x c ∈ es
theorem Stay.nil {es : List Ent} : Stay [] es := fun x h => by cases h
theorem Stay.cons {R : List Nat} {es : List Ent} {x : Nat} {c : List T} (h : Ent.box x c ∈ es) (k : Stay R es) : Stay (x :: R) es := fun y hy => by
 rcases List.mem_cons.1 hy with rfl | hy
 ·exact ⟨c, h⟩
 ·exact k y hy
theorem ik_.mark {S : List Nat} : ∀ {bs : List Nat} {cs : List (List T)}, ik_ σ bs cs → ik_ (σ.mark S) bs cs
 | [], [], _ => trivial
 | b :: bs, c :: cs, ⟨⟨h1, B, h2, h3⟩, h4⟩ => ⟨⟨h1, by
   have e : (σ.mark S).blk b = some (if b ∈ S then { B with st := false } else B) := by simp [St.mark, h2]
   refine ⟨_, e, ?_⟩
   split <;> exact h3⟩, h4.mark⟩
 | [], _ :: _, h => h.elim
 | _ :: _, [], h => h.elim
end
abbrev nt (α : Type) [Enc α] : T := Sl.t (⟨true, []⟩ : Sl α)
section
variable {z : Bool} {ts vs : List T} {es : List Ent}
theorem HLi {k : IntKind} {n : Int} (r : HL z ts vs es) : HL z (.int k n :: ts) (.int k n :: vs) es := HL.leaf (fun σ d => kS_ _ σ d _ _) r
theorem HLs {n : ByteArray} (r : HL z ts vs es) : HL z (.str n :: ts) (.str n :: vs) es := HL.leaf (fun σ d => k9_ _ σ d _) r
theorem HLp {α : Type} [Enc α] {a : Sl α} (r : HL false ts vs es) : HL false (a.t :: ts) (a.t :: vs) es := HL.leaf (fun σ d => kh_ σ d _) r
end
abbrev i4 (n : Int) : T := .int .i64 n
section
variable {P : Program} {O : aO_} {ops : Array Oper} {m : Mo} {l : List Oper} {K : Fr → Prop} {s : Nat → T} {σ σ0 : St} {L : List (Nat × T)} {es : List Ent}
variable {d : Option Nat} {ty : TypeId} {ps : String} {af : Array Edge} {g : Option (Nat × Bool)}
theorem qs (n : Nat) (L' : List (Nat × T)) (hS : Sub L s) (k : ∀ s', Sub L' s' → opsX P O ops (nxN n m) (l.drop n) K ⟨s', σ⟩) (h : ((seg P ops n l L).map fun M => L'.map fun p => get M p.1) = some (L'.map fun p => some p.2) := by kernel_rfl) : opsX P O ops m l K ⟨s, σ⟩ := oC_ n L' hS h k
theorem aV_ {a x : Operand} {t : TypeId} {b n : Nat} {cells cs : List T} (hw : want ops L g = some true) (hS : Sub L s) (hH : Heap σ0 σ (.box b cells :: es)) (ha : gE (get L) a = some (.ptr b 0 0 n)) (hx : gE (get L) x = some (.agg cs)) (h1 : cs.all T.one = true)
  (k : ∀ σ' s', Heap σ0 σ' (.box b cs :: es) → Sub (putL L d (.tup [])) s' → opsX P O ops .q l K ⟨s', σ'⟩) (hc : iH_ P t cells 0 n cs = some cs := by kernel_rfl) : opsX P O ops .q (⟨d, .store t a x, ty, ps, af, g⟩ :: l) K ⟨s, σ⟩ := df_ hw hS hH ha hx rfl h1 hc k
end
end Go.Am
end
section
set_option linter.unusedVariables false
set_option linter.unusedSimpArgs false
namespace Go.Am
section
variable {P : Program} {O : aO_} {ops : Array Oper} {m : Mo} {l : List Oper} {K : Fr → Prop} {s : Nat → T} {σ σ0 : St} {L : List (Nat × T)} {es ents : List Ent}
variable {d : Option Nat} {ty : TypeId} {ps : String} {af : Array Edge} {g : Option (Nat × Bool)}
end
end Go.Am
end
section
set_option linter.unusedVariables false
set_option linter.unusedSimpArgs false
namespace Go.Am
open Classical
def Kb (F : List Nat) (σk : St) (x : Nat) (c : List T) : Prop := x ∈ F ∧ ∃ B, σk.blk x = some B ∧ B.cells = c ∧ B.ep = 0 ∧ B.low = 0
def KLe (F : List Nat) (σ : St) (F2 : List Nat) (σ2 : St) : Prop := F.Nodup ∧ ∀ b ∈ F, b ∈ F2 ∧ σ2.blk b = σ.blk b
theorem Kb.mono {F F2 : List Nat} {σ σ2 : St} {x : Nat} {c : List T} (h : Kb F σ x c) (k : KLe F σ F2 σ2) : Kb F2 σ2 x c := by
 obtain ⟨h1, B, h2, h3⟩ := h
 obtain ⟨k1, k2⟩ := k.2 x h1
 exact ⟨k1, B, by rw [k2, h2], h3⟩
theorem Heap.part {σ0 σ σk σ2 : St} {Fk F2 : List Nat} {es : List Ent} (h : Heap σ0 σ (.keep F2 σ2 :: es)) (k : KLe Fk σk F2 σ2) : ∃ F3, Heap σ0 σ (.keep Fk σk :: .keep F3 σ2 :: es) ∧ ∀ σ' es', Heap σ0 σ' (.keep Fk σk :: .keep F3 σ2 :: es') → Heap σ0 σ' (.keep F2 σ2 :: es') := by
 obtain ⟨S0, ⟨rfl, _⟩, hn2, _⟩ := h.head
 refine ⟨S0.filter fun b => decide (b ∉ Fk), ?_, fun σ' es' h' => ?_⟩
 ·refine Heap.step (es1 := [.keep S0 σ2]) (es2 := [.keep Fk σk, .keep (S0.filter fun b => decide (b ∉ Fk)) σ2]) (es := es) h (Nat.le_refl _) fun S hS hnd hbd => ?_
  obtain ⟨S1, F1, rfl, ⟨rfl, h1⟩, hnil⟩ := hS
  cases hnil
  refine ⟨Fk ++ S1.filter fun b => decide (b ∉ Fk), ⟨Fk, S1.filter fun b => decide (b ∉ Fk), rfl, ⟨rfl, fun b hb => ?_⟩, _, [], by simp, ⟨rfl, fun b hb => h1 b (List.mem_filter.1 hb).1⟩, rfl⟩, ?_, fun b hb => .inl ?_, fun _ _ _ => rfl⟩
  ·obtain ⟨k1, k2⟩ := k.2 b hb
   exact ⟨by rw [(h1 b k1).1, k2], (h1 b k1).2⟩
  ·exact List.nodup_append.2 ⟨k.1, hn2.filter _, fun a ha b hb => by
    rintro rfl
    have := (List.mem_filter.1 hb).2
    simp at this; exact this ha⟩
  ·rw [List.append_nil]
   rcases List.mem_append.1 hb with hb | hb
   ·exact (k.2 b hb).1
   ·exact (List.mem_filter.1 hb).1
 ·refine Heap.step (es1 := [.keep Fk σk, .keep (S0.filter fun b => decide (b ∉ Fk)) σ2]) (es2 := [.keep S0 σ2]) (es := es') h' (Nat.le_refl _) fun S hS hnd hbd => ?_
  obtain ⟨S1, F1, rfl, ⟨rfl, h1⟩, S3, F3, rfl, ⟨rfl, h3⟩, hnil⟩ := hS
  cases hnil
  refine ⟨S0, ⟨S0, [], by simp, ⟨rfl, fun b hb => ?_⟩, rfl⟩, hn2, fun b hb => .inl ?_, fun _ _ _ => rfl⟩
  ·by_cases hm : b ∈ S1
   ·exact ⟨by rw [(h1 b hm).1, (k.2 b hm).2], (h1 b hm).2⟩
   ·exact h3 b (List.mem_filter.2 ⟨hb, by simpa using hm⟩)
  ·rw [List.append_nil]
   by_cases hm : b ∈ S1
   ·exact List.mem_append_left _ hm
   ·exact List.mem_append_right _ (List.mem_filter.2 ⟨hb, by simpa using hm⟩)
section
variable (P : Program) (md : Nat → Md) (X : Ext) {α : Type}
def j4_ (en : α → List T → List Ent) (n : Nat) (th : T) (Φ : Int → α → Option (Bool × α)) (F : List Nat) (σk : St) : Prop :=
 ∀ e S y hs, hs.length = n → Φ e S = some y → ∃ f a b, th = .fn f a b ∧ RawS P md X f (a ++ [.int .i64 e] ++ b) n (fun _ => .bool y.1) (en S hs ++ [.keep F σk]) (fun hs' => en y.2 hs' ++ [.keep F σk])
end
section
variable {P : Program} {md : Nat → Md} {X : Ext} {α : Type} {en : α → List T → List Ent} {n : Nat} {th : T} {Φ : Int → α → Option (Bool × α)} {F F2 : List Nat} {σk σ2 : St}
theorem j4_.mono (h : j4_ P md X en n th Φ F σk) (k : KLe F σk F2 σ2) : j4_ P md X en n th Φ F2 σ2 := fun e S y hs hl hy => by
 obtain ⟨f, a, b, e1, h1⟩ := h e S y hs hl hy
 refine ⟨f, a, b, e1, fun σ0 σ E hH => ?_⟩
 rw [List.append_assoc] at hH
 have hH := hH.perm List.perm_append_comm
 obtain ⟨F3, h2, h3⟩ := Heap.part (es := E ++ en S hs) hH k
 have h2 : Heap σ0 σ ((en S hs ++ [.keep F σk]) ++ (.keep F3 σ2 :: E)) := h2.perm (by
  rw [List.append_assoc]
  refine List.Perm.trans ?_ List.perm_append_comm
  simp only [List.cons_append, List.nil_append]; exact .refl _)
 obtain ⟨hs', σ', q1, q2, q3⟩ := h1 σ0 σ _ h2
 refine ⟨hs', σ', q1, q2, ?_⟩
 have q3 : Heap σ0 σ' (.keep F σk :: .keep F3 σ2 :: (E ++ en y.2 hs')) := q3.perm (by
  rw [List.append_assoc]
  refine List.Perm.trans List.perm_append_comm ?_
  simp only [List.cons_append, List.nil_append]; exact .refl _)
 have q4 := h3 _ _ q3
 rw [List.append_assoc]
 exact q4.perm (by
  refine List.Perm.trans ?_ List.perm_append_comm
  simp only [List.cons_append, List.nil_append]; exact .refl _)
variable {ops : Array Oper} {m : Mo} {l : List Oper} {K : Fr → Prop} {s : Nat → T} {σ σ0 : St} {L : List (Nat × T)} {es ents : List Ent}
variable {d : Option Nat} {ty : TypeId} {ps : String} {af : Array Edge} {g : Option (Nat × Bool)}
theorem RawS.keep {f n : Nat} {args : List T} {tree : List T → T} {ents : List Ent} {ents' : List T → List Ent} (h : RawS P md X f args n tree ents ents') (ks : List Ent) : RawS P md X f args n tree (ents ++ ks) (fun hs => ents' hs ++ ks) := fun σ0 σ E hH => by
 rw [List.append_assoc] at hH
 obtain ⟨hs, σ', h1, h2, h3⟩ := h σ0 σ (ks ++ E) hH
 exact ⟨hs, σ', h1, h2, by rw [List.append_assoc]; exact h3⟩
def Pt (F : List Nat) (σk : St) (pp : T) (c : List T) : Prop := (∃ rest, pp = .vw (c ++ rest)) ∨ ∃ b, pp = .ptr b 0 0 c.length ∧ Kb F σk b c
theorem Pt.mono {pp : T} {c : List T} (h : Pt F σk pp c) (k : KLe F σk F2 σ2) : Pt F2 σ2 pp c := h.imp id fun ⟨b, h1, h2⟩ => ⟨b, h1, h2.mono k⟩
theorem Pt.vw {c rest : List T} : Pt F σk (.vw (c ++ rest)) c := .inl ⟨rest, rfl⟩
theorem Pt.box {b : Nat} {c : List T} {n : Nat} (hn : n = c.length) (h : Kb F σk b c) : Pt F σk (.ptr b 0 0 n) c := .inr ⟨b, by rw [hn], h⟩
theorem Pt.one {pp : T} {c : List T} (h : Pt F σk pp c) : bu_ pp := by
 rcases h with ⟨rest, rfl⟩ | ⟨b, rfl, _⟩ <;> exact ⟨rfl, rfl⟩
end
end Go.Am
end
section
set_option linter.unusedVariables false
set_option linter.unusedSimpArgs false
namespace Go.Am
def A2 {α : Type} (R : α → α → Prop) : List α → List α → Prop
 | [], [] => True
 | x :: xs, y :: ys => R x y ∧ A2 R xs ys
 | _, _ => False
theorem A2.refl {α : Type} {R : α → α → Prop} : ∀ {l : List α}, (∀ x ∈ l, R x x) → A2 R l l
 | [], _ => trivial
 | x :: xs, h => ⟨h x (by simp), A2.refl (fun y hy => h y (by simp [hy]))⟩
theorem A2.len {α : Type} {R : α → α → Prop} : ∀ {l m : List α}, A2 R l m → l.length = m.length
 | [], [], _ => rfl
 | _ :: xs, _ :: ys, h => by simp [A2.len h.2]
 | [], _ :: _, h => h.elim
 | _ :: _, [], h => h.elim
theorem A2.drop {α : Type} {R : α → α → Prop} {l m : List α} {i : Nat} {x y : α} (hx : l[i]? = some x) (hy : m[i]? = some y) : A2 R (l.drop i) (m.drop i) ↔ R x y ∧ A2 R (l.drop (i + 1)) (m.drop (i + 1)) := by
 obtain ⟨h1, rfl⟩ := List.getElem?_eq_some_iff.1 hx
 obtain ⟨h2, rfl⟩ := List.getElem?_eq_some_iff.1 hy
 rw [List.drop_eq_getElem_cons h1, List.drop_eq_getElem_cons h2]
 exact Iff.rfl
theorem d1_ {n : Int} (h0 : -9223372036854775808 ≤ n) (h1 : n < 9223372036854775808) : w4 n = n := by
 simp only [w4, IntKind.wrap, IntKind.signed, IntKind.bits]
 simp
 omega
theorem g2_ {α : Type} {s : Sl α} {i : Nat} {x : α} (h : s.l[i]? = some x) : elt s (i : Int) = some x := by
 simp [elt, h]
/- sizes -/
def SzOk (o : Option Int) (l : Int) (P : Prop) : Prop := o = some (-1) ∨ ∃ l', o = some l' ∧ 0 ≤ l' ∧ l' ≤ l ∧ P
theorem SzOk.imp {o : Option Int} {l m : Int} {P Q : Prop} (h : SzOk o l P) (hm : l ≤ m) (f : P → Q) : SzOk o m Q := by
 rcases h with h | ⟨l', h1, h2, h3, h4⟩
 ·exact .inl h
 ·exact .inr ⟨l', h1, h2, by omega, f h4⟩
/- copies -/
def FitS {α : Type} (n : Nat) (F : α → Prop) (s : Sl α) : Prop := s.l.length ≤ n ∧ ∀ x ∈ s.l, F x
/- comparisons, put together -/
end Go.Am
end
section
set_option linter.unusedVariables false
set_option linter.unusedSimpArgs false
namespace Go.Am
section
variable {P : Program} {t : TypeId} {d : Nat} {ts : List T}
theorem jl_ (kt : aD_ P t = 7) (h : Shp P d t ts) : ∃ d', ShpF P (Shp P d') ((bJ_ P t).map (·.type)) ts := by
 cases d with
 | zero => exact h.elim
 | succ d =>
  rcases h with h | h | h | h | h
  ·rw [kt] at h; exact absurd h.1 (by decide)
  ·simp [b3_, kt] at h
  ·rw [kt] at h; exact absurd h.1 (by decide)
  ·rw [kt] at h; exact absurd h.1 (by decide)
  ·exact ⟨d, h.2⟩
theorem lP_ (kt : aD_ P t = 3) (h : Shp P d t ts) : ∃ s : ByteArray, ts = [.str s] ∧ s.size ≤ maxLen := by
 cases d with
 | zero => exact h.elim
 | succ d =>
  rcases h with h | h | h | h | h
  ·rw [kt] at h; exact absurd h.1 (by decide)
  ·simp [b3_, kt] at h
  ·exact h.2
  ·rw [kt] at h; exact absurd h.1 (by decide)
  ·rw [kt] at h; exact absurd h.1 (by decide)
theorem lw_ {k : IntKind} (hu : P.underlying t = some (.int k)) (kt : aD_ P t = 2) (h : Shp P d t ts) : ∃ n : Int, ts = [.int k n] := by
 cases d with
 | zero => exact h.elim
 | succ d =>
  rcases h with h | h | h | h | h
  ·rw [kt] at h; exact absurd h.1 (by decide)
  ·obtain ⟨_, k', n, h1, h2, _⟩ := h
   rw [hu] at h1
   injection h1 with h1; injection h1 with h1; subst h1
   exact ⟨n, h2⟩
  ·rw [kt] at h; exact absurd h.1 (by decide)
  ·rw [kt] at h; exact absurd h.1 (by decide)
  ·rw [kt] at h; exact absurd h.1 (by decide)
theorem jQ_ {α : Type} [Enc α] {B : α → Prop} : ∀ (els : List (List T)), (∀ el ∈ els, ∃ x : α, el = Enc.cells x ∧ B x) → ∃ l : List α, els.flatten = an_ l ∧ l.length = els.length ∧ ∀ x ∈ l, B x
 | [], _ => ⟨[], rfl, rfl, fun _ h => absurd h (by simp)⟩
 | el :: els, h => by
  obtain ⟨x, rfl, hx⟩ := h el (by simp)
  obtain ⟨l, h1, h2, h3⟩ := jQ_ els (fun e he => h e (by simp [he]))
  refine ⟨x :: l, by simp [an_, h1], by simp [h2], fun y hy => ?_⟩
  rcases List.mem_cons.1 hy with rfl | hy
  ·exact hx
  ·exact h3 y hy
theorem nK_ {α : Type} [Enc α] {B : α → Prop} {e : TypeId} (kt : aD_ P t = 4) (he : av_ P t = some e) (hd : ∀ d ts, Shp P d e ts → ∃ x : α, ts = Enc.cells x ∧ B x) (h : Shp P d t ts) : ∃ x : Sl α, ts = [Sl.t x] ∧ FitS maxLen B x := by
 cases d with
 | zero => exact h.elim
 | succ d =>
  rcases h with h | h | h | h | h
  ·rw [kt] at h; exact absurd h.1 (by decide)
  ·simp [b3_, kt] at h
  ·rw [kt] at h; exact absurd h.1 (by decide)
  ·obtain ⟨_, e', h1, h2⟩ := h
   rw [he] at h1
   injection h1 with h1; subst h1
   rcases h2 with rfl | ⟨els, rfl, h2, h3⟩
   ·exact ⟨⟨true, []⟩, rfl, ⟨by simp, by simp⟩⟩
   ·obtain ⟨l, q1, q2, q3⟩ := jQ_ (B := B) els (fun el hel => hd d el (h3 el hel).2)
    exact ⟨⟨false, l⟩, by simp [Sl.t, q1, q2], ⟨by show l.length ≤ maxLen; omega, q3⟩⟩
  ·rw [kt] at h; exact absurd h.1 (by decide)
end
end Go.Am
end
section
set_option linter.unusedVariables false
set_option linter.unusedSimpArgs false
namespace Go.Am
theorem bk_ {α : Type} {s : Sl α} {i : Nat} (h : i < s.l.length) : elt s (i : Int) = some s.l[i] := g2_ (List.getElem?_eq_getElem h)
theorem kd_ {α : Type} {s : Sl α} {i : Nat} {x : α} (h : i < s.l.length) : elt (setS s (i : Int) x) (i : Int) = some x := by
 refine g2_ ?_; simp [setS, h]
theorem iS_ {α : Type} {s : Sl α} {i : Int} {x y : α} : setS (setS s i x) i y = setS s i y := by simp [setS, List.set_set]
@[simp] theorem oN_ {α : Type} {s : Sl α} {i : Int} {x : α} : (setS s i x).l.length = s.l.length := by simp [setS]
theorem cT_ {n : Int} (h0 : 0 ≤ n) (h1 : n ≤ 4611686018427387904) : w4 n = n := d1_ (by omega) (by omega)
theorem maxLen_eq : maxLen = 9223372036854775807 := by decide
theorem iN_ {α β : Type} (f : α → β) {a : Sl α} {by_ : Nat} {z : β} {body : Int × Sl β → Option ((Int × Sl β) ⊕ Sl β)} (hn : a.l.length ≤ 1048576) (hb : 1048576 * by_ ≤ 1099511627776)
  (h1 : ∀ (i : Nat) x (s : Sl β), x ∈ a.l → i < a.l.length → i < s.l.length → elt a (i : Int) = some x → body (i, s) = some (.inl ((i : Int) + 1, setS s i (f x))))
  (h2 : ∀ s, body ((a.l.length : Int), s) = some (.inr s)) :
  ((mkS by_ z (a.l.length : Int) (a.l.length : Int)).bind fun y1 => (aI_ body (0, y1)).bind fun y2 => some y2) = some ⟨false, a.l.map f⟩ := by
 have hm : mkS by_ z (a.l.length : Int) (a.l.length : Int) = some ⟨false, List.replicate a.l.length z⟩ := by
  have : a.l.length * by_ ≤ 1048576 * by_ := Nat.mul_le_mul_right _ hn
  unfold mkS
  rw [if_pos]
  ·simp
  ·refine ⟨by omega, by omega, ?_, by omega, fun h => h⟩
   have : ((a.l.length * by_ : Nat) : Int) ≤ 1099511627776 := by omega
   simpa using this
 rw [hm]
 suffices H : ∀ (k i : Nat), i + k = a.l.length → ∀ s : Sl β, s.z = false → s.l.length = a.l.length → (∀ j, j < i → s.l[j]? = (a.l.map f)[j]?) → aI_ body ((i : Int), s) = some ⟨false, a.l.map f⟩ by
  have q := H a.l.length 0 (by simp) ⟨false, List.replicate a.l.length z⟩ rfl (by simp) (by intro j h; omega)
  have q : aI_ body (0, ⟨false, List.replicate a.l.length z⟩) = _ := q
  show (aI_ body (0, ⟨false, List.replicate a.l.length z⟩)).bind _ = _
  rw [q]; rfl
 intro k
 induction k with
 | zero =>
  intro i hi s hz hs hP
  have : i = a.l.length := by omega
  subst this
  rw [aA_ (h2 s)]
  obtain ⟨sz, sl⟩ := s
  simp only at hz hs hP
  subst hz
  congr 2
  refine List.ext_getElem? fun j => ?_
  by_cases hj : j < a.l.length
  ·exact hP j hj
  ·rw [List.getElem?_eq_none (by omega), List.getElem?_eq_none (by simp; omega)]
 | succ k ih =>
  intro i hi s hz hs hP
  have ha : i < a.l.length := by omega
  have hi' : i < s.l.length := by omega
  have q1 := h1 i a.l[i] s (List.getElem_mem ha) ha hi' (bk_ ha)
  have p1 := ih (i + 1) (by omega) (setS s i (f a.l[i])) hz (by simp [hs]) (by
   intro j hj
   simp only [setS, Int.toNat_natCast, List.getElem?_set]
   by_cases hij : i = j
   ·subst hij; simp [hi', ha]
   ·rw [if_neg hij]; exact hP j (by omega))
  have hc : ((i + 1 : Nat) : Int) = (i : Int) + 1 := by simp
  rw [hc] at p1
  exact aJ_ q1 p1
theorem gZ_ {n : Nat} {R : Type} {p : Nat → Prop} {bd : Int → Option (Int ⊕ R)} {x y : R} (j0 : Nat) (hn : n < 9223372036854775807) (h1 : ∀ i : Nat, j0 ≤ i → i < n → p i → bd i = some (.inl (w4 ((i : Int) + 1)))) (h2 : ∀ i : Nat, j0 ≤ i → i < n → ¬ p i → bd i = some (.inr y)) :
  ((∀ i, j0 ≤ i → i < n → p i) → aI_ (fun st1 : Int => if decide (st1 < (n : Int)) = true then bd st1 else some (.inr x)) (j0 : Int) = some x) ∧
  (¬ (∀ i, j0 ≤ i → i < n → p i) → aI_ (fun st1 : Int => if decide (st1 < (n : Int)) = true then bd st1 else some (.inr x)) (j0 : Int) = some y) := by
 suffices H : ∀ k i0, j0 ≤ i0 → n - i0 = k → ((∀ i, i0 ≤ i → i < n → p i) → aI_ (fun st1 : Int => if decide (st1 < (n : Int)) = true then bd st1 else some (.inr x)) (i0 : Int) = some x) ∧
  (¬ (∀ i, i0 ≤ i → i < n → p i) → aI_ (fun st1 : Int => if decide (st1 < (n : Int)) = true then bd st1 else some (.inr x)) (i0 : Int) = some y) from H _ j0 (Nat.le_refl _) rfl
 intro k
 induction k with
 | zero =>
  intro i0 _ hk
  refine ⟨fun _ => aA_ (by rw [if_neg (by simp; omega)]), fun h => absurd (fun i h1 h2 => by omega) h⟩
 | succ k ih =>
  intro i0 hj hk
  have hlt : i0 < n := by omega
  obtain ⟨q1, q2⟩ := ih (i0 + 1) (by omega) (by omega)
  have hc : ((i0 + 1 : Nat) : Int) = (i0 : Int) + 1 := by simp
  rw [hc] at q1 q2
  by_cases hp : p i0
  ·have hb := h1 i0 hj hlt hp
   rw [d1_ (by omega) (by omega)] at hb
   refine ⟨fun h => aJ_ (by rw [if_pos (by simp; omega)]; exact hb) (q1 fun i hi hn => h i (by omega) hn), fun h => aJ_ (by rw [if_pos (by simp; omega)]; exact hb) (q2 fun w => h fun i hi hn => ?_)⟩
   by_cases e : i = i0
   ·subst e; exact hp
   ·exact w i (by omega) hn
  ·refine ⟨fun h => absurd (h i0 (Nat.le_refl _) hlt) hp, fun _ => aA_ (by rw [if_pos (by simp; omega)]; exact h2 i0 hj hlt hp)⟩
theorem j9_ {n : Nat} {p : Nat → Prop} {bd : Int → Option (Int ⊕ Int)} (hn : n < 9223372036854775807) (h1 : ∀ i : Nat, i < n → p i → bd i = some (.inl (w4 ((i : Int) + 1)))) (h2 : ∀ i : Nat, i < n → ¬ p i → bd i = some (.inr (i : Int))) :
  ∃ r : Nat, r ≤ n ∧ aI_ (fun st1 : Int => if decide (st1 < (n : Int)) = true then bd st1 else some (.inr st1)) 0 = some (r : Int) ∧ (r = n ↔ ∀ i, i < n → p i) := by
 suffices H : ∀ k i0, n - i0 = k → i0 ≤ n → (∀ i, i < i0 → p i) → ∃ r : Nat, r ≤ n ∧ aI_ (fun st1 : Int => if decide (st1 < (n : Int)) = true then bd st1 else some (.inr st1)) (i0 : Int) = some (r : Int) ∧ (r = n ↔ ∀ i, i < n → p i) from H n 0 (by omega) (by omega) (by intro i h; omega)
 intro k
 induction k with
 | zero =>
  intro i0 hk hle hp
  have : i0 = n := by omega
  subst this
  exact ⟨i0, Nat.le_refl _, aA_ (by rw [if_neg (by simp)]), by simpa using hp⟩
 | succ k ih =>
  intro i0 hk hle hp
  have hlt : i0 < n := by omega
  by_cases hq : p i0
  ·obtain ⟨r, r1, r2, r3⟩ := ih (i0 + 1) (by omega) (by omega) fun i hi => by
    by_cases e : i = i0
    ·subst e; exact hq
    ·exact hp i (by omega)
   have hb := h1 i0 hlt hq
   rw [d1_ (by omega) (by omega)] at hb
   have hc : ((i0 + 1 : Nat) : Int) = (i0 : Int) + 1 := by simp
   rw [hc] at r2
   exact ⟨r, r1, aJ_ (by rw [if_pos (by simp; omega)]; exact hb) r2, r3⟩
  ·exact ⟨i0, hle, aA_ (by rw [if_pos (by simp; omega)]; exact h2 i0 hlt hq), ⟨fun e => by omega, fun w => absurd (w i0 hlt) hq⟩⟩
noncomputable def says (p : Prop) : Bool := @decide p (Classical.propDecidable p)
theorem ej_ {p q : Prop} (h : p ↔ q) : says p = says q := by rw [propext h]
theorem ba_ {p : Prop} (h : p) : says p = true := by simp [says, h]
theorem aQ_ {p : Prop} (h : ¬ p) : says p = false := by simp [says, h]
theorem ff_ {c p : Prop} [Decidable c] {K : Option Bool} (h : c → K = some (says p)) : (if decide c = true then K else some false) = some (says (c ∧ p)) := by
 by_cases hc : c
 ·rw [if_pos (by simp [hc]), h hc]; congr 1; exact ej_ ⟨fun w => ⟨hc, w⟩, fun w => w.2⟩
 ·rw [if_neg (by simp [hc]), aQ_ fun w => hc w.1]
theorem ln_ {c p : Prop} {o K : Option Bool} (ho : o = some (says c)) (h : c → K = some (says p)) : (o.bind fun y => if y = true then K else some false) = some (says (c ∧ p)) := by
 rw [ho, Option.bind_some]
 by_cases hc : c
 ·rw [ba_ hc, if_pos rfl, h hc]; congr 1; exact ej_ ⟨fun w => ⟨hc, w⟩, fun w => w.2⟩
 ·rw [aQ_ hc, if_neg (by simp), aQ_ fun w => hc w.1]
theorem iJ_ {c p : Prop} {o K : Option Bool} (ho : o = some (says c)) (h : ¬ c → K = some (says p)) : (o.bind fun y => if y = true then some true else K) = some (says (c ∨ p)) := by
 rw [ho, Option.bind_some]
 by_cases hc : c
 ·rw [ba_ hc, if_pos rfl, ba_ (.inl hc)]
 ·rw [aQ_ hc, if_neg (by simp), h hc]; congr 1; exact ej_ ⟨fun w => .inr w, fun w => w.resolve_left hc⟩
theorem dT_ {c : Prop} {o : Option Bool} (ho : o = some (says c)) : (o.bind fun y => some y) = some (says c) := by rw [ho]; rfl
theorem i0_ {c : Prop} [Decidable c] : some (decide c) = some (says c) := by by_cases h : c <;> simp [says, h]
theorem g3_ {o : Option Bool} {p q : Prop} (h : o = some (says p)) (hi : p ↔ q) : o = some (says q) := by rw [h, ej_ hi]
theorem fY_ {n : Nat} {p : Nat → Prop} {bd : Int → Option (Int ⊕ (Unit ⊕ Bool))} (i0 : Nat) (hn : n < 9223372036854775807) (h1 : ∀ i : Nat, i0 ≤ i → i < n → p i → bd i = some (.inl (w4 ((i : Int) + 1)))) (h2 : ∀ i : Nat, i0 ≤ i → i < n → ¬ p i → bd i = some (.inr (.inr false))) :
  ((aI_ (S := Int) (R := Unit ⊕ Bool) (fun st1 : Int => if decide (st1 < (n : Int)) = true then bd st1 else some (.inr (.inl ()))) (i0 : Int)).bind fun y => Sum.elim (fun _ => some true) (fun y => some y) y) = some (says (∀ i, i0 ≤ i → i < n → p i)) := by
 obtain ⟨q1, q2⟩ := gZ_ (R := Unit ⊕ Bool) (x := .inl ()) (y := .inr false) i0 hn h1 h2
 by_cases h : ∀ i, i0 ≤ i → i < n → p i
 ·rw [q1 h, ba_ h]; rfl
 ·rw [q2 h, aQ_ h]; rfl
theorem f9_ {α : Type} {a : Sl α} {p : α → Prop} {bd : Int → Option (Int ⊕ (Unit ⊕ Bool))} (hn : a.l.length < 9223372036854775807) (h : ∀ (i : Nat) x, x ∈ a.l → elt a (i : Int) = some x → (p x → bd i = some (.inl (w4 ((i : Int) + 1)))) ∧ (¬ p x → bd i = some (.inr (.inr false)))) :
  ((aI_ (S := Int) (R := Unit ⊕ Bool) (fun st1 : Int => if decide (st1 < (a.l.length : Int)) = true then bd st1 else some (.inr (.inl ()))) 0).bind fun y => Sum.elim (fun _ => some true) (fun y => some y) y) = some (says (∀ x ∈ a.l, p x)) := by
 have := fY_ (p := fun i => ∀ x, a.l[i]? = some x → p x) (bd := bd) 0 hn (fun i _ hi hp => (h i _ (List.getElem_mem hi) (bk_ hi)).1 (hp _ (List.getElem?_eq_getElem hi))) (fun i _ hi hp => (h i _ (List.getElem_mem hi) (bk_ hi)).2 fun q => hp fun x hx => by rw [List.getElem?_eq_getElem hi] at hx; injection hx with hx; exact hx ▸ q)
 refine Eq.trans this (congrArg some (ej_ ⟨fun w x hx => ?_, fun w i _ hi x hx => w x (List.mem_of_getElem? hx)⟩))
 obtain ⟨i, hi, rfl⟩ := List.getElem_of_mem hx
 exact w i (Nat.zero_le _) hi _ (List.getElem?_eq_getElem hi)
theorem jA_ {α : Type} {a : Sl α} {bd : Int → Option (Int ⊕ (Unit ⊕ Bool))} (hn : a.l.length < 9223372036854775807) (h : ∀ (i : Nat) x, x ∈ a.l → elt a (i : Int) = some x → bd i = some (.inl (w4 ((i : Int) + 1)))) :
  (if (!decide ((a.l.length : Int) = (a.l.length : Int))) = true then some false else ((aI_ (S := Int) (R := Unit ⊕ Bool) (fun st1 : Int => if decide (st1 < (a.l.length : Int)) = true then bd st1 else some (.inr (.inl ()))) 0).bind fun y => Sum.elim (fun _ => some true) (fun y => some y) y)) = some true := by
 rw [if_neg (by simp), f9_ (p := fun _ => True) hn fun i x hx he => ⟨fun _ => h i x hx he, fun w => absurd trivial w⟩, ba_ (fun _ _ => trivial)]
def MH {α : Type} (B : α → Int → Option (Int × α)) (F : α → Int → Option Int) (N : Nat) (x : α) : Prop :=
 ∀ k : Int, 0 ≤ k → k + N ≤ 4611686018427387904 → ∃ k' x', B x k = some (k', x') ∧ F x' k = some k' ∧ k ≤ k' ∧ k' ≤ k + N
theorem MH.mono {α : Type} {B : α → Int → Option (Int × α)} {F : α → Int → Option Int} {N M : Nat} {x : α} (h : MH B F N x) (hm : N ≤ M) : MH B F M x := fun k h0 h1 => by
 obtain ⟨k', x', q1, q2, q3, q4⟩ := h k h0 (by omega)
 exact ⟨k', x', q1, q2, q3, by omega⟩
theorem iR_ {α : Type} {by_ : Nat} {z : Bool} {a : List α} {x : α} (h : (a.length + 1) * by_ ≤ 1099511627776) : appS by_ (⟨z, a⟩ : Sl α) ⟨false, [x]⟩ = some ⟨false, a ++ [x]⟩ := by
 simp only [appS, List.length_singleton]; rw [if_pos h]
end Go.Am
end
