/- The abstract machine. -/
import Derived.Test.YtfnjieagnkmceaaAm4
import Derived.Test.YtfnjieagnkmceaaAm2
section
set_option linter.unusedVariables false
set_option linter.unusedSimpArgs false
namespace Go.Am
open Classical
theorem Heap.wrap {σ0 σ : St} {ents E : List Ent} (h : Heap σ0 σ (ents ++ E)) : ∃ F, Heap σ0 σ (ents ++ [.keep F σ]) ∧ ∀ σ' ents', Heap σ0 σ' (ents' ++ [.keep F σ]) → Heap σ0 σ' (ents' ++ E) := by
 obtain ⟨F, h1, h2, h3⟩ := h.ex
 obtain ⟨F1, F2, rfl, h4, h5⟩ := h1.split
 refine ⟨F2, ⟨h.grow, F1 ++ F2, h4.join ⟨F2, [], by simp, ⟨rfl, fun b hb => ⟨rfl, h5.some b hb⟩⟩, rfl⟩, h2, h3⟩, fun σ' ents' k => ?_⟩
 obtain ⟨G, k1, k2, k3⟩ := k.ex
 obtain ⟨G1, G2, rfl, k4, k5⟩ := k1.split
 obtain ⟨S, F', rfl, ⟨rfl, k6⟩, k7⟩ := k5
 cases k7
 simp only [List.append_nil] at k2 k3
 exact ⟨k.grow, G1 ++ S, k4.join (h5.same fun b hb => (k6 b hb).1), k2, k3⟩
section
variable {P : Program} {md : Nat → Md} {X : Ext} {f : Nat}
variable {ops : Array Oper} {m : Mo} {l : List Oper} {K : Fr → Prop} {s : Nat → T} {σ σ0 : St} {L : List (Nat × T)} {es ents : List Ent}
variable {d : Option Nat} {ty : TypeId} {ps : String} {af : Array Edge} {g : Option (Nat × Bool)}
def RawS (P : Program) (md : Nat → Md) (X : Ext) (f : Nat) (args : List T) (n : Nat) (tree : List T → T) (ents : List Ent) (ents' : List T → List Ent) : Prop :=
 ∀ σ0 σ E, Heap σ0 σ (ents ++ E) → ∃ hs σ', hs.length = n ∧ run P md X f args σ = some (tree hs, σ') ∧ Heap σ0 σ' (ents' hs ++ E)
def endM (P : Program) (rs : List ResultVar) (σ0 : St) (n : Nat) (tree : List T → T) (ents' : List T → List Ent) : aC_ → Fr → Prop
 | .exit _, _ => False
 | .normal, fr => ∃ l hs, resL P fr rs = some l ∧ tupOf l = tree hs ∧ hs.length = n ∧ Heap σ0 fr.σ (ents' hs)
 | .ret, fr => ∃ l hs, resL P fr rs = some l ∧ tupOf l = tree hs ∧ hs.length = n ∧ Heap σ0 fr.σ (ents' hs)
theorem oL_ {rs : List ResultVar} {l : List T} {n : Nat} {tree : List T → T} {ents' : List T → List Ent} (hs : List T) (hl : resL P ⟨s, σ⟩ rs = some l) (ht : tupOf l = tree hs) (hn : hs.length = n) (hH : Heap σ0 σ (ents' hs)) : endM P rs σ0 n tree ents' .ret ⟨s, σ⟩ := ⟨l, hs, hl, ht, hn, hH⟩
theorem j3_ {c : Code} {n0 n : Nat} {rs : List ResultVar} {args : List T} {tree : List T → T} {ents' : List T → List Ent} (hv : md f = .raw) (hX : X f = none) (hok : Ok P f c n0 rs) (hlen : Nat.ble args.length n0 = true)
  (h : ∀ σ0 σ F σk s, Sub (nums 0 args) s → Heap σ0 σ (ents ++ [.keep F σk]) → codeQ P (run P md X) c (endM P rs σ0 n tree (fun hs => ents' hs ++ [.keep F σk])) ⟨s, σ⟩) : RawS P md X f args n tree ents ents' := fun σ0 σ E hH => by
 obtain ⟨F, h1, h2⟩ := hH.wrap
 obtain ⟨fn, k1, k2, k3, k4, k5, k6⟩ := hok
 obtain ⟨x, fr, m1, m2⟩ := codeQ_sound (h σ0 σ F σ _ (e3_ args) h1)
 have hx : (x = .normal ∨ x = .ret) ∧ ∃ l hs, resL P fr rs = some l ∧ tupOf l = tree hs ∧ hs.length = n ∧ Heap σ0 fr.σ (ents' hs ++ [.keep F σ]) := by
  cases x with
  | normal => exact ⟨.inl rfl, m2⟩
  | ret => exact ⟨.inr rfl, m2⟩
  | exit i => exact m2.elim
 obtain ⟨hx, l, hs, q1, q2, q3, q4⟩ := hx
 refine ⟨hs, fr.σ, q3, ?_, h2 _ _ q4⟩
 rw [nI_ (P := P) (vm := md) (X := X) (σ := σ) hv hX k1 k2 k3 k4 (by rw [k5]; exact Nat.le_of_ble_eq_true hlen) m1 hx (by rw [resA, k6, q1]; rfl), q2]
theorem go_ {fo : Operand} {as : Array Operand} {tys : Array TypeId} {a b xs : List T} {n : Nat} {tree : List T → T} {ents' : List T → List Ent} (hw : want ops L g = some true) (hS : Sub L s) (hf : gE (get L) fo = some (.fn f a b)) (ha : gEs (get L) as.toList = some xs)
  (hH : Heap σ0 σ (ents ++ es)) (hr : RawS P md X f (a ++ xs ++ b) n tree ents ents')
  (k : ∀ hs σ' s', hs.length = n → Heap σ0 σ' (ents' hs ++ es) → Sub (putL L d (tree hs)) s' → opsX P (run P md X) ops .q l K ⟨s', σ'⟩) : opsX P (run P md X) ops .q (⟨d, .call ⟨.value fo, as, tys⟩, ty, ps, af, g⟩ :: l) K ⟨s, σ⟩ := by
 obtain ⟨hs, σ', h1, h2, h3⟩ := hr σ0 σ es hH
 refine np_ (f := f) (args := a ++ xs ++ b) (aI_ hS hw) (by rw [k5_, cT_ hS ha, Option.bind_some, au_ hS hf]; rfl) h2 ?_
 rw [b0_]
 exact k _ _ _ h1 h3 (aX_ hS d _ σ)
def endI (P : Program) (rs : List ResultVar) (K : T → St → Prop) : aC_ → Fr → Prop
 | .exit _, _ => False
 | .normal, fr => ∃ l, resL P fr rs = some l ∧ K (tupOf l) fr.σ
 | .ret, fr => ∃ l, resL P fr rs = some l ∧ K (tupOf l) fr.σ
theorem fS_ {rs : List ResultVar} {l : List T} {K : T → St → Prop} {v : T} (hl : resL P ⟨s, σ⟩ rs = some l) (ht : tupOf l = v) (h : K v σ) : endI P rs K .ret ⟨s, σ⟩ := ⟨l, hl, ht ▸ h⟩
theorem nP_ {fo : Operand} {as : Array Operand} {tys : Array TypeId} {a b xs : List T} {c : Code} {n0 : Nat} {rs : List ResultVar} (args : List T) (hw : want ops L g = some true) (hS : Sub L s) (hf : gE (get L) fo = some (.fn f a b)) (ha : gEs (get L) as.toList = some xs)
  (hab : a ++ xs ++ b = args) (hv : md f = .raw) (hX : X f = none) (hok : Ok P f c n0 rs) (hlen : Nat.ble args.length n0 = true)
  (h : ∀ s1, Sub (nums 0 args) s1 → codeQ P (run P md X) c (endI P rs fun v σ' => ∀ s', Sub (putL L d v) s' → opsX P (run P md X) ops .q l K ⟨s', σ'⟩) ⟨s1, σ⟩) : opsX P (run P md X) ops .q (⟨d, .call ⟨.value fo, as, tys⟩, ty, ps, af, g⟩ :: l) K ⟨s, σ⟩ := by
 subst hab
 obtain ⟨fn, k1, k2, k3, k4, k5, k6⟩ := hok
 obtain ⟨x, fr, m1, m2⟩ := codeQ_sound (h _ (e3_ _))
 have hx : (x = .normal ∨ x = .ret) ∧ ∃ l1, resL P fr rs = some l1 ∧ ∀ s', Sub (putL L d (tupOf l1)) s' → opsX P (run P md X) ops .q l K ⟨s', fr.σ⟩ := by
  cases x with
  | normal => exact ⟨.inl rfl, m2⟩
  | ret => exact ⟨.inr rfl, m2⟩
  | exit i => exact m2.elim
 obtain ⟨hx, l1, q1, q2⟩ := hx
 refine np_ (f := f) (args := a ++ xs ++ b) (v := tupOf l1) (σ' := fr.σ) (aI_ hS hw) (by rw [k5_, cT_ hS ha, Option.bind_some, au_ hS hf]; rfl)
  (nI_ (P := P) (vm := md) (X := X) (σ := σ) hv hX k1 k2 k3 k4 (by rw [k5]; exact Nat.le_of_ble_eq_true hlen) m1 hx (by rw [resA, k6, q1]; rfl)) ?_
 rw [b0_]
 exact q2 _ (aX_ hS d _ σ)
theorem m9_ {HF : (Nat → T) → St → Prop} {fo : Operand} {as : Array Operand} {tys : Array TypeId} {a b xs : List T} {c : Code} {n0 : Nat} {rs : List ResultVar} (args : List T) (hw : want ops L g = some true) (hS : Sub L s) (hf : gE (get L) fo = some (.fn f a b)) (ha : gEs (get L) as.toList = some xs)
  (hab : a ++ xs ++ b = args) (hv : md f = .raw) (hX : X f = none) (hok : Ok P f c n0 rs) (hlen : Nat.ble args.length n0 = true)
  (h : ∀ s1, Sub (nums 0 args) s1 → codeQ P (run P md X) c (endI P rs fun v σ' => ∀ s', Sub (putL L d v) s' → HF s' σ') ⟨s1, σ⟩)
  (k : ∀ s' σ', HF s' σ' → opsX P (run P md X) ops .q l K ⟨s', σ'⟩) : opsX P (run P md X) ops .q (⟨d, .call ⟨.value fo, as, tys⟩, ty, ps, af, g⟩ :: l) K ⟨s, σ⟩ :=
 nP_ args hw hS hf ha hab hv hX hok hlen fun s1 h1 => codeQ_mono (fun x fr hx => by
  cases x with
  | exit i => exact hx
  | normal => obtain ⟨l, e1, e2⟩ := hx; exact ⟨l, e1, fun s' hs => k _ _ (e2 s' hs)⟩
  | ret => obtain ⟨l, e1, e2⟩ := hx; exact ⟨l, e1, fun s' hs => k _ _ (e2 s' hs)⟩) (h s1 h1)
end
def k1_ (s : ByteArray) : Option (Sl (Iv .u8)) := if 1 ≤ s.size ∧ s.size ≤ 1099511627776 then some ⟨false, s.data.toList.map fun b => ⟨b.toNat⟩⟩ else none
def ofIv : List (Iv .u8) → Option (List UInt8)
 | [] => some []
 | x :: l => if 0 ≤ x.v ∧ x.v < 256 then (ofIv l).map (UInt8.ofNat x.v.toNat :: ·) else none
def strS (a : Sl (Iv .u8)) : Option ByteArray := (ofIv a.l).map fun l => ⟨l.toArray⟩
theorem ofIv_cells : ∀ l : List (Iv .u8), ofBytes (av_ l) = ofIv l
 | [] => rfl
 | x :: l => by
  show ofBytes (.int .u8 x.v :: av_ l) = _
  simp only [ofBytes, ofIv, ofIv_cells l]
theorem ko_ (s : ByteArray) : dJ_ s = av_ (s.data.toList.map fun b => (⟨b.toNat⟩ : Iv .u8)) := by
 unfold dJ_
 generalize s.data.toList = l
 induction l with
 | nil => rfl
 | cons b l ih => simp only [List.map_cons, av_]; rw [ih]; rfl
section
variable {P : Program} {O : a6_}
variable {ops : Array Oper} {m : Mo} {l : List Oper} {K : Fr → Prop} {s : Nat → T} {σ σ0 : St} {L : List (Nat × T)} {es ents : List Ent}
variable {d : Option Nat} {ty : TypeId} {ps : String} {af : Array Edge} {g : Option (Nat × Bool)}
theorem mx_ {σ : St} {src dst : TypeId} {w : ByteArray} : hB_ P none σ src dst (.str w) = if aG_ P src = 3 then if aG_ P dst = 3 then some (.str w, σ) else (ay_ P dst).bind fun e => if aG_ P e = 10 ∧ w.size ≤ 2 ^ 40 ∧ σ.okK none = true then some (.ref (σ.nid none) 0 0 w.size, σ.pushK none (aK_ (dJ_ w) 1)) else none else none := rfl
theorem jH_ {σ : St} {src dst e : TypeId} {x : T} {n : Nat} {cs : List T} {l : List UInt8} (hx : isTop x = true) (h1 : aG_ P dst = 3) (he : ay_ P src = some e) (h3 : aG_ P e = 10) (hc : cellsOf σ x = some (n, cs)) (hn : cs.length = n) (hb : ofBytes cs = some l) : hB_ P none σ src dst x = some (.str ⟨l.toArray⟩, σ) := by
 have key : hB_ P none σ src dst x = if aG_ P dst = 3 then (ay_ P src).bind fun e => if aG_ P e = 10 then (cellsOf σ x).bind fun (n, cs) => if cs.length = n then (ofBytes cs).map fun l => (.str ⟨l.toArray⟩, σ) else none else none else none := by
  cases x <;> first | rfl | (simp [isTop] at hx; done)
 rw [key, if_pos h1, he, Option.bind_some, if_pos h3, hc, Option.bind_some]
 simp only
 rw [if_pos hn, hb]; rfl
theorem sM_ {x : Operand} {src dst e : TypeId} {w : ByteArray} {r : Sl (Iv .u8)} (hw : want ops L g = some true) (hS : Sub L s) (hH : Heap σ0 σ es) (hx : gE (get L) x = some (.str w)) (hk : (Nat.beq (aG_ P src) 3 && !Nat.beq (aG_ P dst) 3) = true) (he : ay_ P dst = some e) (hke : Nat.beq (aG_ P e) 10 = true) (hr : k1_ w = some r)
  (k : ∀ t' σ' s', aV_ t' → Heap σ0 σ' (.own true 1 t' r.t :: es) → Sub (putL L d t') s' → opsX P O ops .q l K ⟨s', σ'⟩) : opsX P O ops .q (⟨d, .convert src dst x, ty, ps, af, g⟩ :: l) K ⟨s, σ⟩ := by
 unfold k1_ at hr
 split at hr
 ·rename_i hb
  injection hr with hr; subst hr
  simp only [Bool.and_eq_true, Bool.not_eq_true'] at hk
  have h1 := Nat.eq_of_beq_eq_true hk.1; have h2 := Nat.ne_of_beq_eq_false hk.2; have h3 := Nat.eq_of_beq_eq_true hke
  refine kW_ (v := .ref σ.next 0 0 w.size) (σ' := σ.pushK none (aK_ (dJ_ w) 1)) (aI_ hS hw) ?_ ?_
  ·rw [iB_, au_ hS hx, Option.bind_some]
   rw [mx_, if_pos h1, if_neg h2, he, Option.bind_some, if_pos ⟨h3, by omega, rfl⟩]; rfl
  ·rw [b0_]
   refine k _ _ _ ⟨rfl, rfl⟩ ?_ (aX_ hS d _ σ)
   have hl : (w.data.toList.map fun b => (⟨b.toNat⟩ : Iv .u8)).length = w.size := by rw [List.length_map, Array.length_toList]; rfl
   have hrow : Sl.t (⟨false, w.data.toList.map fun b => ⟨b.toNat⟩⟩ : Sl (Iv .u8)) = .row false w.size (av_ (w.data.toList.map fun b => (⟨b.toNat⟩ : Iv .u8))) := by
    show T.row false (List.length _) _ = _; rw [hl]
   rw [hrow, ko_]
   refine Heap.mkRow (ents := []) hH (by decide) (by omega) (by rw [cellsL_len, hl]; rfl) (cellsL_one _) ?_
   generalize w.data.toList = l
   induction l with
   | nil => exact .nil
   | cons b l ih => exact .leaf (fun σ d => by cases d <;> rfl) ih
 ·cases hr
theorem sz_ {z : Bool} {wd : Nat} {x : Operand} {src dst e : TypeId} {t1 : T} {a : Sl (Iv .u8)} {r : ByteArray} (hw : want ops L g = some true) (hS : Sub L s) (hH : Heap σ0 σ (.own z wd t1 a.t :: es)) (hx : gE (get L) x = some t1) (hk : Nat.beq (aG_ P dst) 3 = true) (he : ay_ P src = some e) (hke : Nat.beq (aG_ P e) 10 = true) (hr : strS a = some r)
  (k : ∀ s', Sub (putL L d (.str r)) s' → opsX P O ops .q l K ⟨s', σ⟩) : opsX P O ops .q (⟨d, .convert src dst x, ty, ps, af, g⟩ :: l) K ⟨s, σ⟩ := by
 obtain ⟨S, ⟨ht, hwd, k', h2⟩, _, _⟩ := hH.head
 have ea : a.t = .row a.z a.l.length (av_ a.l) := rfl
 rw [ea] at h2
 have hone : Enc.w (Iv .u8) = 1 := rfl
 obtain ⟨l0, h4, h5⟩ := Option.map_eq_some_iff.1 hr
 have h1 := Nat.eq_of_beq_eq_true hk; have h3 := Nat.eq_of_beq_eq_true hke
 have hof : ∀ cs, cs = av_ a.l → ofBytes cs = some l0 := fun cs h => by rw [h, ofIv_cells, h4]
 have leaf : ∀ {k : Nat} (as : List (Iv .u8)) (ts : List T) (S : List Nat), frzL (hold z σ k) ts = some (av_ as, S) → ts = av_ as := by
  intro k as
  induction as with
  | nil => intro ts S h; have := gu_ h; exact List.length_eq_zero_iff.1 (by simpa [av_] using this.symm)
  | cons x as ih =>
   intro ts S h
   have h : frzL (hold z σ k) ts = some (.int .u8 x.v :: av_ as, S) := h
   cases ts with
   | nil => simp [frzL] at h
   | cons t ts =>
    simp only [frzL] at h
    obtain ⟨⟨p1, p2⟩, q1, q2⟩ := Option.bind_eq_some_iff.1 h
    obtain ⟨⟨r1, r2⟩, q3, q4⟩ := Option.map_eq_some_iff.1 q2
    injection q4 with q4 _
    injection q4 with e1 e2
    subst e1; subst e2
    have := gf_ (z := z) (k := .u8) (n := x.v) σ k t p2 q1
    rw [this, ih ts r2 q3]; rfl
 have hconv : hB_ P none σ src dst t1 = some (.str r, σ) := by
  subst h5
  rcases cB_ ht h2 with ⟨rfl, hz, hn0, hcs, rfl⟩ | ⟨rfl, hz, hn0, hcs, rfl⟩ | ⟨hzz, x', B, S', k'', rfl, hB, c1, c3, c5, c6, c7, h3', rfl⟩
  ·exact jH_ ht h1 he h3 (n := 0) (cs := []) rfl rfl (hof _ hcs.symm)
  ·exact jH_ ht h1 he h3 (n := 0) (cs := []) rfl rfl (hof _ hcs.symm)
  ·have e1 : (B.cells.drop 0).take (a.l.length * B.esz) = B.cells := by rw [List.drop_zero, ← c5, List.take_length]
   have e2 : B.cells = av_ a.l := leaf _ _ _ h3'
   refine jH_ ht h1 he h3 (n := a.l.length) (cs := B.cells) ?_ (by rw [e2, cellsL_len, hone, Nat.mul_one]) (hof _ e2)
   simp only [cellsOf, hB, Option.bind_some, if_pos c3, e1]
 refine kW_ (v := .str r) (σ' := σ) (aI_ hS hw) (by rw [iB_, au_ hS hx, Option.bind_some, hconv]; rfl) ?_
 rw [b0_]
 exact k _ (aX_ hS d _ σ)
end
theorem mD_ {σ : St} {k : Nat} {t : T} {z : Bool} {n : Nat} {cs : List T} {S : List Nat} (h : hold true σ k t = some (.row z n cs, S)) : isTop t = true := by
 cases t with
 | row zz m us => cases zz <;> cases m <;> cases us <;> first | rfl | (cases k <;> simp [hold] at h)
 | agg us => cases k <;> simp [hold] at h
 | tup us => cases k <;> simp [hold] at h
 | ref b e off n => rfl
 | emp => rfl
 | _ => cases k <;> simp [hold] at h
section
variable {P : Program} {O : a6_}
variable {ops : Array Oper} {m : Mo} {l : List Oper} {K : Fr → Prop} {s : Nat → T} {σ σ0 : St} {L : List (Nat × T)} {es ents : List Ent}
variable {d : Option Nat} {ty : TypeId} {ps : String} {af : Array Edge} {g : Option (Nat × Bool)}
theorem Heap.lens {α β : Type} [Enc α] [Enc β] {w : Nat} {t1 : T} {a : Sl α} {j : Int} {y : α} {b ep off : Nat} {c : List T} {q : Sl β} (hH : Heap σ0 σ (.own true w t1 a.t :: es)) (hr : t1 = .ref b ep 0 a.l.length)
  (hy : elt a j = some y) (hc : Enc.cells y = c) (hv : c[off]? = some q.t) :
  ∃ F t' B S', aV_ t' ∧ Heap σ0 σ (.own true 0 t' q.t :: .keep F σ :: es) ∧
   (∀ (σ1 : St) (es1 : List Ent) (q' : Sl β) (y' : α), Enc.cells y' = c.take off ++ q'.t :: c.drop (off + 1) → Heap σ0 σ1 (.own true 0 t' q'.t :: .keep F σ :: es1) → Heap σ0 σ1 (.own true w t1 (setS a j y').t :: es1)) ∧
   (∀ (σ1 : St) (es1 : List Ent), Heap σ0 σ1 (.own true 0 t' q.t :: .keep F σ :: es1) → Heap σ0 σ1 (.own true w t1 a.t :: es1)) ∧
   (∀ (σ1 : St) (es1 : List Ent) (w2 : Nat) (t2 : T) (q2 : Sl β) (y' : α), Enc.cells y' = c.take off ++ q2.t :: c.drop (off + 1) → Heap σ0 σ1 (.own true w2 t2 q2.t :: .keep F σ :: es1) → ∃ B1, σ1.blk b = some B1 ∧ B1.st = true ∧ ep = B1.ep ∧ j.toNat * Enc.w α + off + 1 ≤ B1.cells.length ∧ Heap σ0 (σ1.set b { B1 with cells := splice B1.cells (j.toNat * Enc.w α + off) [t2], low := B1.ep, ver := B1.ver + 1 }) (.own true w t1 (setS a j y').t :: es1)) ∧
   b ∈ F ∧ σ.blk b = some B ∧ ep = B.ep ∧ B.low ≤ B.ep ∧ B.cells.drop (j.toNat * Enc.w α + off) = t' :: B.cells.drop (j.toNat * Enc.w α + off + 1) ∧ B.cells.all T.one = true ∧ ∃ k, frzL (hold true σ k) B.cells = some (av_ a.l, S') := by
 obtain ⟨q1, q2, q3⟩ := gh_ hy
 obtain ⟨S, ⟨ht, hwd, k', h2⟩, hnd0, _⟩ := hH.head
 have ea : a.t = .row a.z a.l.length (av_ a.l) := rfl
 rw [ea] at h2
 rcases cB_ ht h2 with ⟨rfl, hz, hn0, hcs, rfl⟩ | ⟨rfl, hz, hn0, hcs, rfl⟩ | ⟨hzz, x', B, S', k'', rfl, hB, c1, c3, c5, c6, c7, h3, rfl⟩
 ·cases hr
 ·cases hr
 injection hr with e1 e2 _ _
 subst e1; subst e2
 obtain ⟨pos, hpos⟩ : ∃ pos, pos = j.toNat * Enc.w α + off := ⟨_, rfl⟩
 have hoff : off < c.length := (List.getElem?_eq_some_iff.1 hv).1
 have hcl : c.length = Enc.w α := by rw [← hc, Enc.len]
 have hdrop : (av_ a.l).drop pos = q.t :: (av_ a.l).drop (pos + 1) := by
  have hd := f4_ a.l j.toNat y q3
  rw [hc] at hd
  have e : ∀ m, (av_ a.l).drop (j.toNat * Enc.w α + m) = (c ++ av_ (a.l.drop (j.toNat + 1))).drop m := fun m => by rw [← List.drop_drop, hd]
  rw [hpos, e off, Nat.add_assoc, e (off + 1), List.drop_eq_getElem_cons (by simp; omega)]
  congr 1
  rw [List.getElem_append_left hoff]
  exact (List.getElem?_eq_some_iff.1 hv).2
 obtain ⟨G1, G2, rfl, h4, h5⟩ := ee_ pos h3
 rw [hdrop] at h5
 have hlen : B.cells.drop pos ≠ [] := fun h => by rw [h] at h5; simp [frzL] at h5
 obtain ⟨t', cr, hcr⟩ := List.exists_cons_of_ne_nil hlen
 have hcr2 : cr = B.cells.drop (pos + 1) := by rw [← List.drop_drop, hcr]; rfl
 rw [hcr] at h5
 simp only [frzL] at h5
 obtain ⟨⟨v0, G3⟩, h6, h7⟩ := Option.bind_eq_some_iff.1 h5
 obtain ⟨⟨vs, G4⟩, h8, h9⟩ := Option.map_eq_some_iff.1 h7
 injection h9 with h9 h10; injection h9 with h9 h11
 subst h9; subst h10; subst h11
 have htop : isTop t' = true := mD_ h6
 have hperm : ∀ X : List Nat, (X ++ (x' :: (G1 ++ G4))).Perm (x' :: (G1 ++ (X ++ G4))) := fun X =>
  List.perm_middle.trans (List.Perm.cons _ (by rw [← List.append_assoc, ← List.append_assoc]; exact List.perm_append_comm.append_right _))
 have hcells : ∀ (q' : Sl β) (y' : α), Enc.cells y' = c.take off ++ q'.t :: c.drop (off + 1) → av_ (setS a j y').l = (av_ a.l).take pos ++ ([q'.t] ++ (av_ a.l).drop (pos + 1)) := fun q' y' hy' => by
  simp only [setS]
  rw [hz_ a.l j.toNat y y' q3, hy', hpos]
  have hd := f4_ a.l j.toNat y q3
  rw [hc] at hd
  have hsplit : av_ a.l = (av_ a.l).take (j.toNat * Enc.w α) ++ (c ++ av_ (a.l.drop (j.toNat + 1))) := by rw [← hd, List.take_append_drop]
  have hl0 : ((av_ a.l).take (j.toNat * Enc.w α)).length = j.toNat * Enc.w α := by
   rw [List.length_take, cellsL_len]
   have : (j.toNat + 1) * Enc.w α ≤ a.l.length * Enc.w α := Nat.mul_le_mul_right _ (by omega)
   rw [Nat.succ_mul] at this; omega
  generalize (av_ a.l).take (j.toNat * Enc.w α) = A at hsplit hl0
  generalize av_ (a.l.drop (j.toNat + 1)) = R at hsplit
  rw [hsplit]
  have := jc_ A c R [q'.t] (j.toNat * Enc.w α) off 1 (Enc.w α) hl0 hcl (by omega)
  simp only [List.append_assoc, List.singleton_append, List.cons_append, List.nil_append, List.drop_drop] at this ⊢
  rw [this]
 have hclose : ∀ (σ1 : St) (es1 : List Ent) (q' : Sl β) (y' : α), Enc.cells y' = c.take off ++ q'.t :: c.drop (off + 1) → Heap σ0 σ1 (.own true 0 t' q'.t :: .keep (x' :: (G1 ++ G4)) σ :: es1) → Heap σ0 σ1 (.own true w (.ref x' B.ep 0 a.l.length) (setS a j y').t :: es1) := by
  intro σ1 es1 q' y' hy' hH1
  refine Heap.step (es1 := [.own true 0 t' q'.t, .keep (x' :: (G1 ++ G4)) σ]) (es2 := [.own true w (.ref x' B.ep 0 a.l.length) (setS a j y').t]) (es := es1) hH1 (Nat.le_refl _) fun F hF hnd hbd => ?_
  obtain ⟨S1, F1, rfl, ⟨_, _, k5, h12⟩, S2, F2, rfl, ⟨rfl, hkeep⟩, hnil⟩ := hF
  cases hnil
  rw [List.append_nil] at hnd
  have hkeep := fun b hb => (hkeep b hb).1
  have cg : ∀ {ts ws : List T} {G : List Nat}, (∀ x ∈ G, x ∈ G1 ++ G4) → frzL (hold true σ k'') ts = some (ws, G) → frzL (hold true σ1 k'') ts = some (ws, G) := fun hG h =>
   aA_ (fun t v S'' _ hq hq2 => cz_ k'' t v S'' (fun x hx => hkeep x (by simp only [List.mem_cons]; exact .inr (hG _ (hq2 _ hx)))) hq) h
  have r1 := cg (fun x hx => by simp [hx]) h4
  have r2 := cg (fun x hx => by simp [hx]) h8
  have r0 : frzL (hold true σ1 k5) [t'] = some ([q'.t], S1) := by simp [frzL, h12]
  have r3 := bp_ (a5_ (Nat.le_max_left k'' k5) r1) (bp_ (a5_ (Nat.le_max_right k'' k5) r0) (a5_ (Nat.le_max_left k'' k5) r2))
  have hB1 : σ1.blk x' = some B := by rw [hkeep x' (by simp), hB]
  refine ⟨x' :: (G1 ++ (S1 ++ G4)), ⟨x' :: (G1 ++ (S1 ++ G4)), [], by simp, ⟨rfl, fun b e o n B' h hB' hw0 => ?_, max k'' k5 + 1, ?_⟩, rfl⟩, (hperm S1).nodup_iff.1 hnd, fun b hb => .inl ?_, fun _ _ _ => rfl⟩
  ·injection h with h; subst h
   rw [hB1] at hB'; injection hB' with hB'; subst hB'
   exact hwd _ _ _ _ _ rfl hB hw0
  ·have hll : (setS a j y').l.length = a.l.length := by simp [setS]
   have e3 : List.take pos B.cells ++ ([t'] ++ cr) = B.cells := by
    rw [List.singleton_append, ← hcr, List.take_append_drop]
   rw [e3] at r3
   have hz : (setS a j y').z = false := hzz
   simp only [hold, hB1, Option.bind_some, Sl.t, hll, hcells q' y' hy', hz]
   rw [if_pos ⟨fun _ => c1 rfl, trivial, c3, trivial, c5, c6, c7, by omega⟩, r3]; rfl
  ·rw [List.append_nil]; exact (hperm S1).mem_iff.2 hb
 have hput : ∀ (σ1 : St) (es1 : List Ent) (w2 : Nat) (t2 : T) (q2 : Sl β) (y' : α), Enc.cells y' = c.take off ++ q2.t :: c.drop (off + 1) → Heap σ0 σ1 (.own true w2 t2 q2.t :: .keep (x' :: (G1 ++ G4)) σ :: es1) → ∃ B1, σ1.blk x' = some B1 ∧ B1.st = true ∧ B.ep = B1.ep ∧ j.toNat * Enc.w α + off + 1 ≤ B1.cells.length ∧ Heap σ0 (σ1.set x' { B1 with cells := splice B1.cells (j.toNat * Enc.w α + off) [t2], low := B1.ep, ver := B1.ver + 1 }) (.own true w (.ref x' B.ep 0 a.l.length) (setS a j y').t :: es1) := by
  intro σ1 es1 w2 t2 q2 y' hy' hH1
  have hB1 : σ1.blk x' = some B := by
   obtain ⟨Sk, ⟨rfl, hkp⟩, _⟩ := (hH1.at 1 rfl).head
   rw [(hkp x' (by simp)).1, hB]
  have hplen : pos + 1 ≤ B.cells.length := by
   have := congrArg List.length hcr
   simp only [List.length_drop, List.length_cons] at this; omega
  refine ⟨B, hB1, c1 rfl, rfl, by rw [← hpos]; exact hplen, ?_⟩
  rw [← hpos]
  refine Heap.step (es1 := [.own true w2 t2 q2.t, .keep (x' :: (G1 ++ G4)) σ]) (es2 := [.own true w (.ref x' B.ep 0 a.l.length) (setS a j y').t]) (es := es1) hH1 (by simp) fun F hF hnd hbd => ?_
  obtain ⟨S1, F1, rfl, ⟨htop2, _, k5, h12⟩, S2, F2, rfl, ⟨rfl, hkeep⟩, hnil⟩ := hF
  cases hnil
  rw [List.append_nil] at hnd
  have hkeep := fun b hb => (hkeep b hb).1
  obtain ⟨n1, n2, n3⟩ := List.nodup_append.1 hnd
  have hx1 : x' ∉ S1 := fun h => n3 x' h x' (by simp) rfl
  have hx2 : x' ∉ G1 ++ G4 := (List.nodup_cons.1 n2).1
  have hs : ∀ b, b ≠ x' → (σ1.set x' { B with cells := splice B.cells pos [t2], low := B.ep, ver := B.ver + 1 }).blk b = σ1.blk b := fun b hb => by rw [cc_, if_neg hb]
  have cg : ∀ {ts ws : List T} {G : List Nat}, (∀ x ∈ G, x ∈ G1 ++ G4) → frzL (hold true σ k'') ts = some (ws, G) → frzL (hold true (σ1.set x' { B with cells := splice B.cells pos [t2], low := B.ep, ver := B.ver + 1 }) k'') ts = some (ws, G) := fun hG h =>
   aA_ (fun t v S'' _ hq hq2 => cz_ k'' t v S'' (fun x hx => by
    have hxG := hG _ (hq2 _ hx)
    rw [hs x fun e => by subst e; exact hx2 hxG]
    exact hkeep x (by simp only [List.mem_cons]; exact .inr hxG)) hq) h
  have r1 := cg (fun x hx => by simp [hx]) h4
  have r2 := cg (fun x hx => by simp [hx]) h8
  have h13 : hold true (σ1.set x' { B with cells := splice B.cells pos [t2], low := B.ep, ver := B.ver + 1 }) k5 t2 = some (q2.t, S1) := cz_ k5 t2 q2.t S1 (fun x hx => hs x fun e => by subst e; exact hx1 hx) h12
  have r0 : frzL (hold true (σ1.set x' { B with cells := splice B.cells pos [t2], low := B.ep, ver := B.ver + 1 }) k5) [t2] = some ([q2.t], S1) := by
   simp only [frzL, h13, Option.bind_some, Option.map_some, List.append_nil]
  have r3 := bp_ (a5_ (Nat.le_max_left k'' k5) r1) (bp_ (a5_ (Nat.le_max_right k'' k5) r0) (a5_ (Nat.le_max_left k'' k5) r2))
  refine ⟨x' :: (G1 ++ (S1 ++ G4)), ⟨x' :: (G1 ++ (S1 ++ G4)), [], by simp, ⟨rfl, fun b e o n B' h hB' hw0 => ?_, max k'' k5 + 1, ?_⟩, rfl⟩, (hperm S1).nodup_iff.1 hnd, fun b hb => .inl ?_, fun b hb hm => hs b fun e => hm (by simp [e])⟩
  ·injection h with h; subst h
   rw [bN_] at hB'; injection hB' with hB'; subst hB'
   exact hwd _ _ _ _ B rfl hB hw0
  ·have hll : (setS a j y').l.length = a.l.length := by simp [setS]
   have e3 : splice B.cells pos [t2] = List.take pos B.cells ++ ([t2] ++ cr) := by
    unfold splice; rw [hcr2, List.append_assoc]; rfl
   have hz : (setS a j y').z = false := hzz
   have hone := (gP_ htop2).2
   have hall : (List.take pos B.cells ++ ([t2] ++ cr)).all T.one = true := by
    rw [List.all_eq_true] at c7
    rw [List.all_eq_true]
    intro x hx
    rcases List.mem_append.1 hx with hx | hx
    ·exact c7 x (List.mem_of_mem_take hx)
    ·rcases List.mem_cons.1 (show x ∈ t2 :: cr from hx) with rfl | hx
     ·exact hone
     ·rw [hcr2] at hx; exact c7 x (List.mem_of_mem_drop hx)
   have hlen2 : (List.take pos B.cells ++ ([t2] ++ cr)).length = a.l.length * B.esz := by
    rw [← c5, hcr2]; simp only [List.length_append, List.length_take, List.length_drop, List.length_singleton]; omega
   simp only [hold, bN_, Option.bind_some, Sl.t, hll, hcells q2 y' hy', hz]
   rw [e3] at r3 ⊢
   rw [if_pos ⟨fun _ => c1 rfl, trivial, Nat.le_refl _, trivial, hlen2, c6, hall, by omega⟩, r3]; rfl
  ·rw [List.append_nil]; exact (hperm S1).mem_iff.2 hb
 have hsame : setS a j y = a := by
  obtain ⟨z, l⟩ := a
  simp only [setS]
  congr 1
  obtain ⟨hi, hy'⟩ := List.getElem?_eq_some_iff.1 q3
  rw [← hy']; exact List.set_getElem_self hi
 have hcy : Enc.cells y = c.take off ++ q.t :: c.drop (off + 1) := by
  obtain ⟨ho, hv'⟩ := List.getElem?_eq_some_iff.1 hv
  rw [hc, ← hv', List.getElem_cons_drop, List.take_append_drop]
 refine ⟨x' :: (G1 ++ G4), t', B, G1 ++ (G3 ++ G4), gP_ htop, ?_, hclose, fun σ1 es1 hh => by have := hclose σ1 es1 q y hcy hh; rwa [hsame] at this, hput, by simp, hB, rfl, c3, ?_, c7, k'', h3⟩
 ·refine Heap.step (es1 := [.own true w (.ref x' B.ep 0 a.l.length) a.t]) (es2 := [.own true 0 t' q.t, .keep (x' :: (G1 ++ G4)) σ]) (es := es) hH (Nat.le_refl _) fun F hF hnd hbd => ?_
  obtain ⟨S1, F1, rfl, ⟨_, _, k5, h12⟩, hnil⟩ := hF
  cases hnil
  have : S1 = x' :: (G1 ++ (G3 ++ G4)) := by
   have e1 := bH_ k' _ _ _ h2 (max k' k5) (Nat.le_max_left _ _)
   have e2 := bH_ k5 _ _ _ h12 (max k' k5) (Nat.le_max_right _ _)
   rw [ea, e1] at e2; injection e2 with e2; injection e2 with _ e2; exact e2.symm
  subst this
  rw [List.append_nil] at hnd
  have hsome : ∀ b ∈ x' :: (G1 ++ G4), (σ.blk b).isSome = true := fun b hb => iP_ h12 b (by simp only [List.mem_cons, List.mem_append] at hb ⊢; rcases hb with h | h | h <;> simp [h])
  refine ⟨G3 ++ ((x' :: (G1 ++ G4)) ++ []), ⟨G3, _, rfl, ⟨htop, fun _ _ _ _ _ _ _ h => absurd rfl h, k'', h6⟩, _, [], rfl, ⟨rfl, fun b hb => ⟨rfl, hsome b hb⟩⟩, rfl⟩, ?_, fun b hb => .inl ?_, fun _ _ _ => rfl⟩
  ·rw [List.append_nil]; exact (hperm G3).nodup_iff.2 hnd
  ·rw [List.append_nil] at hb; rw [List.append_nil]; exact (hperm G3).mem_iff.1 hb
 ·rw [← hpos, hcr, hcr2]
theorem gb_ {α β : Type} [Enc α] [Enc β] {w : Nat} {m : Mo} {ad : Operand} {t : TypeId} {t1 : T} {a : Sl α} {j : Int} {y : α} {b ep off n : Nat} {c : List T} {q : Sl β} (hm : ∀ b e o n, t1 = .ref b e o n → m.lt b) (hw : want ops L g = some true) (hS : Sub L s) (hH : Heap σ0 σ (.own true w t1 a.t :: es)) (hr : t1 = .ref b ep 0 a.l.length)
  (ha : gE (get L) ad = some (.ptr b ep (j.toNat * Enc.w α + off) n)) (hy : elt a j = some y) (hc : Enc.cells y = c) (hag : lm_ P t = some false) (hv : c[off]? = some q.t) (hn : Nat.ble 1 n = true)
  (k : ∀ F σk t' s', aV_ t' → Heap σ0 σ (.own true 0 t' q.t :: .keep F σk :: es) →
   (∀ (σ1 : St) (es1 : List Ent) (q' : Sl β) (y' : α), Enc.cells y' = c.take off ++ q'.t :: c.drop (off + 1) → Heap σ0 σ1 (.own true 0 t' q'.t :: .keep F σk :: es1) → Heap σ0 σ1 (.own true w t1 (setS a j y').t :: es1)) →
   (∀ (σ1 : St) (es1 : List Ent), Heap σ0 σ1 (.own true 0 t' q.t :: .keep F σk :: es1) → Heap σ0 σ1 (.own true w t1 a.t :: es1)) →
   (∀ (σ1 : St) (es1 : List Ent) (w2 : Nat) (t2 : T) (q2 : Sl β) (y' : α), Enc.cells y' = c.take off ++ q2.t :: c.drop (off + 1) → Heap σ0 σ1 (.own true w2 t2 q2.t :: .keep F σk :: es1) → ∃ B1, σ1.blk b = some B1 ∧ B1.st = true ∧ ep = B1.ep ∧ j.toNat * Enc.w α + off + 1 ≤ B1.cells.length ∧ Heap σ0 (σ1.set b { B1 with cells := splice B1.cells (j.toNat * Enc.w α + off) [t2], low := B1.ep, ver := B1.ver + 1 }) (.own true w t1 (setS a j y').t :: es1)) →
   Heap σ0 σk (.own true w t1 a.t :: es) → b ∈ F →
   Sub (putL L d t') s' → opsX P O ops (nxM m) l K ⟨s', σ⟩) : opsX P O ops m (⟨d, .load t ad, ty, ps, af, g⟩ :: l) K ⟨s, σ⟩ := by
 obtain ⟨F, t', B, S', h1, h2, h3, h4, hput, hbF, h5, rfl, h7, h8, _⟩ := Heap.lens hH hr hy hc hv
 refine hn_ hw hS (fun kk σ' ha' => ?_) (fun s' => k F σ t' s' h1 h2 h3 h4 hput hH hbF)
 subst hr
 rw [kq_, au_ hS ha, Option.bind_some, fH_, Mo.al_blk ha' (hm _ _ _ _ rfl), h5, Option.bind_some, if_pos h7, lM_, hag, Option.bind_some, gz_, h8]
 have := Nat.le_of_ble_eq_true hn
 obtain ⟨n, rfl⟩ : ∃ k, n = k + 1 := ⟨n - 1, by omega⟩
 simp
theorem kA_ {α β : Type} [Enc α] [Enc β] {w w2 : Nat} {m : Mo} (hm : m.chg = true) {ad x : Operand} {t : TypeId} {t1 t2 : T} {a : Sl α} {j : Int} {b ep off n : Nat} {c : List T} {q2 : Sl β} {F : List Nat} {σk : St} (y' : α) (hwr : m.wr b) (hw : want ops L g = some true) (hS : Sub L s)
  (hput : ∀ (σ1 : St) (es1 : List Ent) (w2 : Nat) (t2 : T) (q2 : Sl β) (y' : α), Enc.cells y' = c.take off ++ q2.t :: c.drop (off + 1) → Heap σ0 σ1 (.own true w2 t2 q2.t :: .keep F σk :: es1) → ∃ B1, σ1.blk b = some B1 ∧ B1.st = true ∧ ep = B1.ep ∧ j.toNat * Enc.w α + off + 1 ≤ B1.cells.length ∧ Heap σ0 (σ1.set b { B1 with cells := splice B1.cells (j.toNat * Enc.w α + off) [t2], low := B1.ep, ver := B1.ver + 1 }) (.own true w t1 (setS a j y').t :: es1))
  (hH : Heap σ0 σ (.own true w2 t2 q2.t :: .keep F σk :: es)) (ha : gE (get L) ad = some (.ptr b ep (j.toNat * Enc.w α + off) n)) (hx : gE (get L) x = some t2) (hone : aV_ t2) (hsz : szOf P t = some 1) (hn : Nat.ble 1 n = true) (hy' : Enc.cells y' = c.take off ++ q2.t :: c.drop (off + 1))
  (k : ∀ σ' s', Heap σ0 σ' (.own true w t1 (setS a j y').t :: es) → Sub (putL L d (.tup [])) s' → opsX P O ops (nxM m) l K ⟨s', σ'⟩) : opsX P O ops m (⟨d, .store t ad x, ty, ps, af, g⟩ :: l) K ⟨s, σ⟩ := by
 obtain ⟨B1, p1, p2, rfl, p4, p5⟩ := hput σ es w2 t2 q2 y' hy' hH
 refine lz_ (σ' := σ.set b { B1 with cells := splice B1.cells (j.toNat * Enc.w α + off) [t2], low := B1.ep, ver := B1.ver + 1 }) hm rfl (aI_ hS hw) (fun kk => ?_) (fun kk => ⟨Nat.le_refl _, fun y _ _ => ?_⟩) ?_
 ·rw [lO_, au_ hS ha, Option.bind_some, au_ hS hx, Option.bind_some, hp_, p1, Option.bind_some, hsz, Option.bind_some, hone.1, if_pos ⟨p2, rfl, rfl, Nat.le_of_ble_eq_true hn, p4, by simp [hone.2]⟩]; rfl
 ·rw [cc_]; split
  ·rename_i e; subst e; exact .inr ⟨hwr, by rw [p1]; rfl⟩
  ·exact .inl rfl
 ·rw [b0_]; exact k _ _ p5 (aX_ hS d _ σ)
theorem Heap.width {α : Type} [Enc α] {z : Bool} {w : Nat} {t1 : T} {a : Sl α} (h : Heap σ0 σ (.own z w t1 a.t :: es)) : Heap σ0 σ (.own z (Enc.w α) t1 a.t :: es) :=
 Heap.step (es1 := [.own z w t1 a.t]) (es2 := [.own z (Enc.w α) t1 a.t]) (es := es) h (Nat.le_refl _) fun S hS hnd hbd => by
  obtain ⟨S1, F1, rfl, ⟨ht, hwd, k, h2⟩, hnil⟩ := hS
  refine ⟨S1 ++ F1, ⟨S1, F1, rfl, ⟨ht, fun b e o n B hr hB hw0 => ?_, k, h2⟩, hnil⟩, hnd, fun b hb => .inl hb, fun _ _ _ => rfl⟩
  subst hr
  cases k with
  | zero => cases h2
  | succ k =>
   have h2 : hold z σ (k + 1) (.ref b e o n) = some (.row a.z a.l.length (av_ a.l), S1) := h2
   simp only [hold, hB, Option.bind_some] at h2
   split at h2
   ·rename_i hc
    obtain ⟨⟨us, S2⟩, h3, h4⟩ := Option.map_eq_some_iff.1 h2
    injection h4 with h4 _; injection h4 with _ e2 e3
    subst e2; subst e3
    exact ia_ hc.2.2.2.2.1 h3 (by have := hc.2.2.2.2.2.2.2; omega)
   ·cases h2
end
section
variable {P : Program} {O : a6_}
variable {ops : Array Oper} {m : Mo} {l : List Oper} {K : Fr → Prop} {s : Nat → T} {σ σ0 : St} {L : List (Nat × T)}
variable {d : Option Nat} {ty : TypeId} {ps : String} {af : Array Edge} {g : Option (Nat × Bool)}
end
section
variable {P : Program} {O : a6_}
variable {ops : Array Oper} {m : Mo} {l : List Oper} {K : Fr → Prop} {s : Nat → T} {σ : St} {L : List (Nat × T)}
variable {d : Option Nat} {ty : TypeId} {ps : String} {af : Array Edge} {g : Option (Nat × Bool)}
end
end Go.Am
end
section
set_option linter.unusedVariables false
set_option linter.unusedSimpArgs false
namespace Go.Am
section
variable {P : Program} {O : a6_} {ops : Array Oper} {l : List Oper} {K : Fr → Prop} {s : Nat → T} {σ σ0 : St} {L : List (Nat × T)} {es ents : List Ent}
variable {d : Option Nat} {ty : TypeId} {ps : String} {af : Array Edge} {g : Option (Nat × Bool)}
theorem Heap.toFrt {z : Bool} {w : Nat} {t v : T} (h : Heap σ0 σ (.own z w t v :: es)) : Heap σ0 σ (.frt z w t v :: es) :=
 Heap.step (es1 := [.own z w t v]) (es2 := [.frt z w t v]) (es := es) h (Nat.le_refl _) fun S hS hnd hbd => by
  obtain ⟨S1, F1, rfl, h1, hnil⟩ := hS
  exact ⟨S1 ++ F1, ⟨S1, F1, rfl, .inl h1, hnil⟩, hnd, fun b hb => .inl hb, fun _ _ _ => rfl⟩
theorem Heap.ofFrt {α : Type} [Enc α] {z : Bool} {w : Nat} {t : T} {a : Sl α} (h : Heap σ0 σ (.frt z w t a.t :: es)) (ha : (a.z || !decide (a.l.length = 0)) = true) : Heap σ0 σ (.own z w t a.t :: es) :=
 Heap.step (es1 := [.frt z w t a.t]) (es2 := [.own z w t a.t]) (es := es) h (Nat.le_refl _) fun S hS hnd hbd => by
  obtain ⟨S1, F1, rfl, h1, hnil⟩ := hS
  refine ⟨S1 ++ F1, ⟨S1, F1, rfl, ?_, hnil⟩, hnd, fun b hb => .inl hb, fun _ _ _ => rfl⟩
  rcases h1 with h1 | ⟨hv, _⟩
  ·exact h1
  ·have hv : T.row a.z a.l.length (av_ a.l) = .row false 0 [] := hv
   injection hv with h1 h2 _
   rw [h1, h2] at ha; simp at ha
theorem oU_ {α : Type} [Enc α] {x hi : Operand} {t e : TypeId} {t1 : T} {a : Sl α} {w : Nat} {kk : IntKind} (hw : want ops L g = some true) (hS : Sub L s) (hH : Heap σ0 σ (.own true w t1 a.t :: es)) (hx : gE (get L) x = some t1) (hhi : gE (get L) hi = some (.int kk 0))
  (he : ay_ P t = some e) (hz : szOf P e = some (Enc.w α)) (hsz : Nat.beq (Enc.w α) 0 = false) (hne : (!decide (a.l.length = 0)) = true)
  (k : ∀ t' s', aV_ t' → Heap σ0 σ (.frt true (Enc.w α) t' (Sl.t (⟨false, []⟩ : Sl α)) :: es) → Sub (putL L d t') s' → opsX P O ops .q l K ⟨s', σ⟩) : opsX P O ops .q (⟨d, .slice t x none (some hi) none, ty, ps, af, g⟩ :: l) K ⟨s, σ⟩ := by
 have hne : a.l.length ≠ 0 := by simpa using hne
 have hsz := Nat.ne_of_beq_eq_false hsz
 obtain ⟨S, ⟨ht, hwd, k', h2⟩, _, _⟩ := hH.head
 have ea : a.t = .row a.z a.l.length (av_ a.l) := rfl
 rw [ea] at h2
 rcases cB_ ht h2 with ⟨rfl, hz, hn0, hcs, rfl⟩ | ⟨rfl, hz, hn0, hcs, rfl⟩ | ⟨hzz, x', B, S', k'', rfl, hB, c1, c3, c5, c6, c7, h3, rfl⟩
 ·exact absurd hn0 hne
 ·exact absurd hn0 hne
 ·have hesz := ia_ c5 h3 (by omega)
  refine hn_ hw hS (v := .ref x' B.ep 0 0) (fun kk σ' ha' => ?_) (fun s' hs' => k _ s' ⟨rfl, rfl⟩ ?_ hs')
  ·obtain rfl := ha'
   rw [nG_, au_ hS hx, Option.bind_some, hS_, Option.bind_some]
   show ((Option.map some (evalO s hi)).bind _) = _
   rw [au_ hS hhi, Option.map_some, Option.bind_some, Option.bind_some, m3_]
   simp only [okO, Bool.and_self, if_true, mL_, he, hz, hB, Option.bind_some, boundA]
   simp [hesz, c3, hsz]
  ·refine Heap.step (es1 := [.own true w (.ref x' B.ep 0 a.l.length) a.t]) (es2 := [.frt true (Enc.w α) (.ref x' B.ep 0 0) (Sl.t (⟨false, []⟩ : Sl α))]) (es := es) hH (Nat.le_refl _) fun S hS hnd hbd => ?_
   obtain ⟨S1, F1, rfl, ⟨_, _, k5, h5⟩, hnil⟩ := hS
   cases hnil
   have hm := eJ_ h5
   refine ⟨[x'], ⟨[x'], [], rfl, .inr ⟨rfl, x', B, rfl, rfl, hB, c1 rfl, c3, hesz, hsz⟩, rfl⟩, by simp, fun b hb => .inl ?_, fun _ _ _ => rfl⟩
   simp at hb; subst hb; simpa using hm
def kO_ {α : Type} (by_ : Nat) (x0 : α) (n : Int) : Option (Sl α) := if 0 < n ∧ n * by_ ≤ 1099511627776 then some ⟨false, List.replicate n.toNat x0⟩ else none
theorem rl_ {α : Type} [Enc α] {z : Bool} {x y : Operand} {kk : IntKind} {n : Int} {t t2 e by_ : Nat} {x0 : α} {r : Sl α} (hz0 : ∀ σ d, frzL (hold z σ d) (Enc.cells x0) = some (Enc.cells x0, [])) (hw : want ops L g = some true) (hS : Sub L s) (hH : Heap σ0 σ es)
  (hx : gE (get L) x = some (.row true 0 [])) (hy : gE (get L) y = some (.int kk n)) (he : ay_ P t = some e) (hz : szOf P e = some (Enc.w α)) (hby : cI_ P e = some by_) (hzz : bb_ P e = some (Enc.cells x0))
  (hcl : (ct_ P t2 && !Nat.beq (Enc.w α) 0 && !Nat.beq by_ 0 && Nat.ble by_ 1048576) = true) (hc : kO_ by_ x0 n = some r)
  (k : ∀ t' σ' s', aV_ t' → Heap σ0 σ' (.own z (Enc.w α) t' r.t :: es) → Sub (putL L d t') s' → opsX P O ops .q l K ⟨s', σ'⟩) : opsX P O ops .q (⟨d, .call ⟨.builtin .append, #[x, y], #[t, t2]⟩, ty, ps, af, g⟩ :: l) K ⟨s, σ⟩ := by
 simp only [Bool.and_eq_true, Bool.not_eq_true'] at hcl
 obtain ⟨⟨⟨c1, c2⟩, c3⟩, c4⟩ := hcl
 have c2 := Nat.ne_of_beq_eq_false c2; have c3 := Nat.ne_of_beq_eq_false c3; have c4 := Nat.le_of_ble_eq_true c4
 unfold kO_ at hc
 split at hc
 ·rename_i hh
  injection hc with hc; subst hc
  have hlen : ((List.replicate n.toNat (Enc.cells x0)).flatten).length = n.toNat * Enc.w α := by simp [Enc.len]
  have hfr : ∀ (σ' : St) (m : Nat), frzL (hold z σ' 0) (av_ (List.replicate m x0)) = some (av_ (List.replicate m x0), []) := fun σ' m => by
   induction m with
   | zero => rfl
   | succ m ih => simpa [List.replicate_succ, av_] using bp_ (hz0 σ' 0) ih
  have hrow : Sl.t (⟨false, List.replicate n.toNat x0⟩ : Sl α) = .row false n.toNat (av_ (List.replicate n.toNat x0)) := by simp [Sl.t]
  refine kW_ (v := .ref σ.next 0 0 n.toNat) (σ' := σ.pushK none (aK_ ((List.replicate n.toNat (Enc.cells x0)).flatten) (Enc.w α))) (aI_ hS hw) ?_ ?_
  ·have ev : bP_ s [x, y] = some [.row true 0 [], .int kk n] := by simp only [bP_, au_ hS hx, au_ hS hy, Option.bind_some, Option.map_some]
   show ((bP_ s [x, y]).bind fun args => match args, [t, t2] with | [x, y], [t, t2] => (bs_ P none σ t t2 x y).map fun (x, σ) => ARes.val x σ | _, _ => none) = _
   rw [ev, Option.bind_some]
   show (bs_ P none σ t t2 _ _).map _ = _
   unfold bs_
   rw [he, Option.bind_some, hz, Option.bind_some, hby, Option.bind_some, hzz, Option.bind_some, if_pos c1, if_neg (by rintro (h | h | h | h); exact h (Enc.len x0); exact c2 h; exact c3 h; omega)]
   unfold appZ
   simp only
   rw [if_pos ⟨hh.1, hh.2, rfl⟩]; rfl
  ·rw [b0_]
   refine k _ _ _ ⟨rfl, rfl⟩ ?_ (aX_ hS d _ σ)
   rw [hrow, ← b1_]
   refine Heap.step (es1 := []) (es2 := [.own z (Enc.w α) (.ref σ.next 0 0 n.toNat) (.row false n.toNat (av_ (List.replicate n.toNat x0)))]) (es := es) hH (by simp) fun S hS _ _ => ?_
   refine ⟨[σ.next], ⟨[σ.next], [], rfl, ⟨rfl, (fun b e o n B h hB _ => by injection h with h; subst h; rw [eb_] at hB; injection hB with hB; subst hB; rfl), 1, ?_⟩, rfl⟩, by simp, fun b hb => by simp at hb; subst hb; exact .inr ⟨Nat.le_refl _, by simp⟩, fun b hb _ => by rw [gU_, if_neg (by omega)]⟩
   simp only [hold, eb_, Option.bind_some, fs_, hfr, Option.map_some]
   rw [if_pos (by simp only [aK_]; exact ⟨fun _ => trivial, trivial, Nat.le_refl _, trivial, by rw [b1_]; exact hlen, c2, cellsL_one _, by have := hh.1; omega⟩)]
 ·cases hc
theorem oY_ {m : Mo} {x : Operand} {t : TypeId} (hw : want ops L g = some true) (hS : Sub L s) (hx : gE (get L) x = some (.row true 0 [])) (hk : aG_ P t = 4)
  (k : ∀ s', Sub (putL L d (.int .i64 0)) s' → opsX P O ops (nxM m) l K ⟨s', σ⟩) : opsX P O ops m (⟨d, .call ⟨.builtin .cap, #[x], #[t]⟩, ty, ps, af, g⟩ :: l) K ⟨s, σ⟩ :=
 hn_ hw hS (fun kk σ' _ => by
  have ev : bP_ s [x] = some [.row true 0 []] := by simp only [bP_, au_ hS hx, Option.bind_some, Option.map_some]
  show ((bP_ s [x]).bind fun args => match args, [t] with | [x], [t] => (capA P t x).map fun x => ARes.val x σ' | _, _ => none) = _
  rw [ev, Option.bind_some]
  show (capA P t (.row true 0 [])).map _ = _
  simp only [capA, hk, if_true]; rfl) k
theorem q3_ {α : Type} [Enc α] {z : Bool} [Hld z α] {x y : Operand} {t1 : T} {a b c : Sl α} {t t2 e by_ : Nat} {zc : List T} (hw : want ops L g = some true) (hS : Sub L s) (hH : Heap σ0 σ (.frt z (Enc.w α) t1 a.t :: es))
  (hx : gE (get L) x = some t1) (hy : gE (get L) y = some b.t) (he : ay_ P t = some e) (hz : szOf P e = some (Enc.w α)) (hby : cI_ P e = some by_) (hzz : bb_ P e = some zc)
  (hcl : (!ct_ P t2 && Nat.beq zc.length (Enc.w α) && !Nat.beq (Enc.w α) 0 && !Nat.beq by_ 0 && Nat.ble by_ 1048576) = true) (hk : aG_ P t2 = 4) (hc : appS by_ a b = some c)
  (kk : ∀ t' σ' s', aV_ t' → Heap σ0 σ' (.frt z (Enc.w α) t' c.t :: es) → Sub (putL L d t') s' → opsX P O ops .q l K ⟨s', σ'⟩) : opsX P O ops .q (⟨d, .call ⟨.builtin .append, #[x, y], #[t, t2]⟩, ty, ps, af, g⟩ :: l) K ⟨s, σ⟩ := by
 obtain ⟨S, h1, hnd, hbd⟩ := hH.head
 rcases h1 with h1 | ⟨hv, x', B, rfl, rfl, hB, d1, d2, d3, d4⟩
 ·have hH' : Heap σ0 σ (.own z (Enc.w α) t1 a.t :: es) := Heap.step (es1 := [.frt z (Enc.w α) t1 a.t]) (es2 := [.own z (Enc.w α) t1 a.t]) (es := es) hH (Nat.le_refl _) fun S' hS' hnd' hbd' => by
   obtain ⟨S1, F1, rfl, h2, hnil⟩ := hS'
   cases hnil
   rcases h2 with h2 | ⟨hv, x', B, rfl, rfl, hB, d1, d2, d3, d4⟩
   ·exact ⟨S1 ++ [], ⟨S1, [], rfl, h2, rfl⟩, hnd', fun b hb => .inl hb, fun _ _ _ => rfl⟩
   ·obtain ⟨ht, hwd, k, h3⟩ := h1
    have hv' : a.t = .row false 0 [] := hv
    rw [hv'] at h3
    rcases cB_ ht h3 with ⟨h, _⟩ | ⟨h, _⟩ | ⟨_, x2, B2, _, _, h, _, _, _, _, _, _, _, _⟩
    ·cases h
    ·cases h
    ·exfalso
     cases k with
     | zero => cases h3
     | succ k =>
      simp only [hold, hB, Option.bind_some] at h3
      rw [if_neg (fun hh => hh.2.2.2.2.2.2.2 rfl)] at h3; cases h3
  exact mf_ hw hS hH' hx hy he hz hby hzz hcl hk hc fun t' σ' s' k1 k2 k3 => kk t' σ' s' k1 k2.toFrt k3
 ·have hv : T.row a.z a.l.length (av_ a.l) = .row false 0 [] := hv
  injection hv with e1 e2 e3
  have ha : a = ⟨false, []⟩ := by
   obtain ⟨az, al⟩ := a
   simp only at e1 e2
   rw [e1, List.length_eq_zero_iff.1 e2]
  subst ha
  simp only [Bool.and_eq_true, Bool.not_eq_true'] at hcl
  obtain ⟨⟨⟨⟨c1, c2⟩, c3⟩, c4⟩, c5⟩ := hcl
  have c2 := Nat.eq_of_beq_eq_true c2; have c3 := Nat.ne_of_beq_eq_false c3; have c4 := Nat.ne_of_beq_eq_false c4; have c5 := Nat.le_of_ble_eq_true c5
  have hnews : g1_ σ (Enc.w α) b.t = some (b.l.length, av_ b.l) := by simp only [g1_, Sl.t, cellsOf, Option.bind_some, cellsL_len, if_true]
  have hsrc : hE_ P t2 b.t = true := by simp [hE_, Sl.t, T.isStr, hk]
  have ev : bP_ s [x, y] = some [.ref x' B.ep 0 0, b.t] := by simp only [bP_, au_ hS hx, au_ hS hy, Option.bind_some, Option.map_some]
  have hop : ∀ r, bs_ P none σ t t2 (.ref x' B.ep 0 0) b.t = some r → aOp P none ⟨s, σ⟩ ⟨d, .call ⟨.builtin .append, #[x, y], #[t, t2]⟩, ty, ps, af, g⟩ = some (ARes.val r.1 r.2) := fun r h => by
   show ((bP_ s [x, y]).bind fun args => match args, [t, t2] with | [x, y], [t, t2] => (bs_ P none σ t t2 x y).map fun (x, σ) => ARes.val x σ | _, _ => none) = _
   rw [ev, Option.bind_some]
   show (bs_ P none σ t t2 _ _).map _ = _
   rw [h]; rfl
  have happ : bs_ P none σ t t2 (.ref x' B.ep 0 0) b.t = if b.l.length = 0 then (if B.esz = Enc.w α ∧ B.low ≤ B.ep then some (.ref x' B.ep 0 0, σ) else none)
     else if 0 = 0 ∧ B.ep = B.ep ∧ B.esz = Enc.w α ∧ B.cells.length = 0 * Enc.w α ∧ (0 + b.l.length) * by_ ≤ 2 ^ 40 then
      some (.ref x' (B.ep + 1) 0 (0 + b.l.length), σ.set x' { B with cells := B.cells ++ av_ b.l, ep := B.ep + 1, ver := B.ver + 1 })
     else if 0 = 0 ∧ B.ep = B.ep ∧ B.esz = Enc.w α ∧ 0 * Enc.w α ≤ B.cells.length ∧ B.st = true ∧ (0 + b.l.length) * by_ ≤ 2 ^ 40 then
      some (.ref x' (B.ep + 2) 0 (0 + b.l.length), σ.set x' { B with cells := B.cells.take (0 * Enc.w α) ++ av_ b.l, ep := B.ep + 2, low := B.ep + 1, ver := B.ver + 2 })
     else none := by
   unfold bs_
   rw [he, Option.bind_some, hz, Option.bind_some, hby, Option.bind_some, hzz, Option.bind_some, c1, if_neg (by simp), if_neg (by omega), hnews, Option.bind_some]
   simp only
   rw [if_neg (by simp [cellsL_one, hsrc])]
   simp only [hB, Option.bind_some]
  rcases k3_ hc with ⟨hb, rfl⟩ | ⟨hb, hlim, rfl⟩
  ·have hb0 : b.l.length = 0 := by rw [hb]; rfl
   refine kW_ (aI_ hS hw) (hop (.ref x' B.ep 0 0, σ) (by rw [happ, if_pos hb0, if_pos ⟨d3, d2⟩])) ?_
   rw [b0_]
   exact kk _ _ _ ⟨rfl, rfl⟩ hH (aX_ hS d _ σ)
  ·have hb0 : b.l.length ≠ 0 := fun h => hb (List.length_eq_zero_iff.1 h)
   have hlim' : (0 + b.l.length) * by_ ≤ 2 ^ 40 := by simpa using hlim
   have fin : ∀ B' : Blk, B'.cells = av_ b.l → B'.esz = B.esz → B'.low ≤ B'.ep → B'.st = true → Heap σ0 (σ.set x' B') (.frt z (Enc.w α) (.ref x' B'.ep 0 (0 + b.l.length)) (Sl.t (⟨false, [] ++ b.l⟩ : Sl α)) :: es) := fun B' q1 q2 q3 q4 => by
    refine Heap.toFrt (Heap.step (es1 := [.frt z (Enc.w α) (.ref x' B.ep 0 0) (Sl.t (⟨false, []⟩ : Sl α))]) (es2 := [.own z (Enc.w α) (.ref x' B'.ep 0 (0 + b.l.length)) (Sl.t (⟨false, [] ++ b.l⟩ : Sl α))]) (es := es) hH (by simp) fun S hS hnd hbd => ?_)
    obtain ⟨S1, F1, rfl, h2, hnil⟩ := hS
    cases hnil
    have hx1 : x' ∈ S1 := by
     rcases h2 with ⟨_, _, k, h2⟩ | ⟨_, b2, B2, h2, rfl, _⟩
     ·exact eJ_ h2
     ·injection h2 with h2 _; subst h2; simp
    refine ⟨[x'], ⟨[x'], [], rfl, ⟨rfl, (fun b e o n B2 h hB2 _ => by injection h with h; subst h; rw [bN_] at hB2; injection hB2 with hB2; subst hB2; rw [q2, d3]), 1, ?_⟩, rfl⟩, by simp, fun b hb => .inl ?_, fun y hy hm => ?_⟩
    ·simp only [hold, bN_, Option.bind_some, q1, Hld.list, Option.map_some, Sl.t, List.nil_append]
     rw [Nat.zero_add, if_pos ⟨fun _ => q4, trivial, q3, trivial, by rw [cellsL_len, q2, d3], by rw [q2, d3]; exact d4, cellsL_one _, hb0⟩]
    ·simp at hb; subst hb; simpa using hx1
    ·rw [cc_, if_neg (fun e => hm (by simp [e, hx1]))]
   by_cases hcl : B.cells.length = 0 * Enc.w α
   ·have hnil : B.cells = [] := List.length_eq_zero_iff.1 (by simpa using hcl)
    refine kW_ (aI_ hS hw) (hop (.ref x' (B.ep + 1) 0 (0 + b.l.length), σ.set x' { B with cells := B.cells ++ av_ b.l, ep := B.ep + 1, ver := B.ver + 1 }) (by rw [happ, if_neg hb0, if_pos ⟨rfl, rfl, d3, hcl, hlim'⟩])) ?_
    rw [b0_]
    exact kk _ _ _ ⟨rfl, rfl⟩ (fin _ (by simp [hnil]) rfl (Nat.le_succ_of_le d2) d1) (aX_ hS d _ σ)
   ·refine kW_ (aI_ hS hw) (hop (.ref x' (B.ep + 2) 0 (0 + b.l.length), σ.set x' { B with cells := B.cells.take (0 * Enc.w α) ++ av_ b.l, ep := B.ep + 2, low := B.ep + 1, ver := B.ver + 2 }) (by rw [happ, if_neg hb0, if_neg fun h => hcl h.2.2.2.1, if_pos ⟨rfl, rfl, d3, by simp, d1, hlim'⟩])) ?_
    rw [b0_]
    exact kk _ _ _ ⟨rfl, rfl⟩ (fin _ (by simp) rfl (by simp) d1) (aX_ hS d _ σ)
end
section
variable {P : Program} {md : Nat → Md} {X : Ext} {ops : Array Oper} {m : Mo} {l : List Oper} {K : Fr → Prop} {s : Nat → T} {σ σ0 : St} {L : List (Nat × T)} {es ents : List Ent} {f : Nat}
variable {d : Option Nat} {ty : TypeId} {ps : String} {af : Array Edge} {g : Option (Nat × Bool)}
theorem gT_.mark {S : List Nat} : ∀ {bs : List Nat} {cs : List (List T)}, gT_ σ bs cs → gT_ (σ.mark S) bs cs
 | [], [], _ => trivial
 | b :: bs, c :: cs, ⟨⟨h1, B, h2, h3⟩, h4⟩ => ⟨⟨h1, by
   have e : (σ.mark S).blk b = some (if b ∈ S then { B with st := false } else B) := by simp [St.mark, h2]
   refine ⟨_, e, ?_⟩
   split <;> exact h3⟩, h4.mark⟩
 | [], _ :: _, h => h.elim
 | _ :: _, [], h => h.elim
theorem oh_ {β : Type} {eb : β → T} {r : β} {fo : Operand} {as : Array Operand} {tys : Array TypeId} {ts vs : List T} {mk : List Nat → List T} {cs : List (List T)} (bs : List Nat) (hw : want ops L g = some true) (hS : Sub L s) (hf : gE (get L) fo = some (.fn f [] [])) (ha : gEs (get L) as.toList = some ts)
  (hv : md f = .view) (hH : Heap σ0 σ (ents ++ es)) (hh : HL false ts vs ents) (hmk : mk bs = vs) (hl : gT_ σ bs cs) (hr : semL P md X eb f mk cs = some r) (hlf : leafT (eb r) = true)
  (k : ∀ s', Sub (putL L d (eb r)) s' → opsX P (run P md X) ops (nxM m) l K ⟨s', σ⟩) : opsX P (run P md X) ops m (⟨d, .call ⟨.value fo, as, tys⟩, ty, ps, af, g⟩ :: l) K ⟨s, σ⟩ := by
 obtain ⟨D, S, h1, _, _, _⟩ := hh.frz hH
 refine is_ hw hS hf ha (r := eb r) ?_ k
 simp only [List.nil_append, List.append_nil]
 exact nK_ hv h1 hlf (by rw [← hmk]; exact kB_ hr (σ.mark S) bs hl.mark)
end
abbrev nt (α : Type) [Enc α] : T := Sl.t (⟨true, []⟩ : Sl α)
section
variable {z : Bool} {ts vs : List T} {es : List Ent}
theorem HLi {k : IntKind} {n : Int} (r : HL z ts vs es) : HL z (.int k n :: ts) (.int k n :: vs) es := HL.leaf (fun σ d => oA_ _ σ d _ _) r
theorem HLs {n : ByteArray} (r : HL z ts vs es) : HL z (.str n :: ts) (.str n :: vs) es := HL.leaf (fun σ d => om_ _ σ d _) r
theorem HLp {α : Type} [Enc α] {a : Sl α} (r : HL false ts vs es) : HL false (a.t :: ts) (a.t :: vs) es := HL.leaf (fun σ d => oe_ σ d _) r
end
abbrev i4 (n : Int) : T := .int .i64 n
section
variable {P : Program} {O : a6_} {ops : Array Oper} {m : Mo} {l : List Oper} {K : Fr → Prop} {s : Nat → T} {σ σ0 : St} {L : List (Nat × T)} {es : List Ent}
variable {d : Option Nat} {ty : TypeId} {ps : String} {af : Array Edge} {g : Option (Nat × Bool)}
theorem qs (n : Nat) (L' : List (Nat × T)) (hS : Sub L s) (k : ∀ s', Sub L' s' → opsX P O ops (nxN n m) (l.drop n) K ⟨s', σ⟩) (h : ((seg P ops n l L).map fun M => L'.map fun p => get M p.1) = some (L'.map fun p => some p.2) := by kernel_rfl) : opsX P O ops m l K ⟨s, σ⟩ := sr_ n L' hS h k
theorem aF_ {a x : Operand} {t : TypeId} {b n : Nat} {cells cs : List T} (hw : want ops L g = some true) (hS : Sub L s) (hH : Heap σ0 σ (.box b cells :: es)) (ha : gE (get L) a = some (.ptr b 0 0 n)) (hx : gE (get L) x = some (.agg cs)) (h1 : cs.all T.one = true)
  (k : ∀ σ' s', Heap σ0 σ' (.box b cs :: es) → Sub (putL L d (.tup [])) s' → opsX P O ops .q l K ⟨s', σ'⟩) (hc : mk_ P t cells 0 n cs = some cs := by kernel_rfl) : opsX P O ops .q (⟨d, .store t a x, ty, ps, af, g⟩ :: l) K ⟨s, σ⟩ := a0_ hw hS hH ha hx rfl h1 hc k
end
end Go.Am
end
section
set_option linter.unusedVariables false
set_option linter.unusedSimpArgs false
namespace Go.Am
def A2 {α : Type} (R : α → α → Prop) : List α → List α → Prop
 | [], [] => True
 | x :: xs, y :: ys => R x y ∧ A2 R xs ys
 | _, _ => False
theorem A2.refl {α : Type} {R : α → α → Prop} : ∀ {l : List α}, (∀ x ∈ l, R x x) → A2 R l l
 | [], _ => trivial
 | x :: xs, h => ⟨h x (by simp), A2.refl (fun y hy => h y (by simp [hy]))⟩
theorem A2.len {α : Type} {R : α → α → Prop} : ∀ {l m : List α}, A2 R l m → l.length = m.length
 | [], [], _ => rfl
 | _ :: xs, _ :: ys, h => by simp [A2.len h.2]
 | [], _ :: _, h => h.elim
 | _ :: _, [], h => h.elim
theorem A2.drop {α : Type} {R : α → α → Prop} {l m : List α} {i : Nat} {x y : α} (hx : l[i]? = some x) (hy : m[i]? = some y) : A2 R (l.drop i) (m.drop i) ↔ R x y ∧ A2 R (l.drop (i + 1)) (m.drop (i + 1)) := by
 obtain ⟨h1, rfl⟩ := List.getElem?_eq_some_iff.1 hx
 obtain ⟨h2, rfl⟩ := List.getElem?_eq_some_iff.1 hy
 rw [List.drop_eq_getElem_cons h1, List.drop_eq_getElem_cons h2]
 exact Iff.rfl
theorem ew_ {n : Int} (h0 : -9223372036854775808 ≤ n) (h1 : n < 9223372036854775808) : w4 n = n := by
 simp only [w4, IntKind.wrap, IntKind.signed, IntKind.bits]
 simp
 omega
theorem jN_ {α : Type} {s : Sl α} {i : Nat} {x : α} (h : s.l[i]? = some x) : elt s (i : Int) = some x := by
 simp [elt, h]
/- sizes -/
def SzOk (o : Option Int) (l : Int) (P : Prop) : Prop := o = some (-1) ∨ ∃ l', o = some l' ∧ 0 ≤ l' ∧ l' ≤ l ∧ P
theorem SzOk.imp {o : Option Int} {l m : Int} {P Q : Prop} (h : SzOk o l P) (hm : l ≤ m) (f : P → Q) : SzOk o m Q := by
 rcases h with h | ⟨l', h1, h2, h3, h4⟩
 ·exact .inl h
 ·exact .inr ⟨l', h1, h2, by omega, f h4⟩
theorem sz_u {B F : Option Int} {l : Int} {P : Prop} (u : ∀ r, B = some r → F = some r) (h : SzOk B l P) : SzOk F l P := by
 rcases h with h | ⟨l', h1, h2⟩
 ·exact .inl (u _ h)
 ·exact .inr ⟨l', u _ h1, h2⟩
theorem nl_ {l : Int} {Q : Prop} (h : 0 ≤ l) (q : Q) : SzOk (some l) l Q := .inr ⟨l, rfl, h, by omega, q⟩
theorem pi_ {l l' : Int} {K : Option Int} {Q : Prop} (hl : l' ≤ l) (h : 0 ≤ l' → SzOk K l' Q) : SzOk (if decide (l' < 0) = true then some (-1) else K) l Q := by
 by_cases hn : l' < 0
 ·exact .inl (by simp [hn])
 ·rw [if_neg (by simpa using hn)]
  exact (h (by omega)).imp hl (fun q => q)
theorem jO_ {o : Option Int} {l : Int} {P Q : Prop} {k : Int → Option Int} (h : SzOk o l P) (hk : ∀ l', 0 ≤ l' → l' ≤ l → P → SzOk (k l') l' Q) : SzOk (o.bind fun y => if decide (y < 0) = true then some (-1) else k y) l Q := by
 rcases h with h | ⟨l', h1, h2, h3, h4⟩
 ·subst h; exact .inl (by simp)
 ·subst h1
  show SzOk (if decide (l' < 0) = true then some (-1) else k l') l Q
  rw [if_neg (by simp; omega)]
  exact (hk l' h2 h3 h4).imp h3 (fun q => q)
theorem pM_ {α : Type} {P : α → Prop} {a : Sl α} {body : Int × Int → Option ((Int × Int) ⊕ (Int ⊕ Int))} {l : Int} (h0 : 0 ≤ l)
  (h1 : ∀ (i : Nat) x l', a.l[i]? = some x → 0 ≤ l' → l' ≤ l → body (l', i) = some (.inr (.inr (-1))) ∨ ∃ l'', body (l', i) = some (.inl (l'', (i : Int) + 1)) ∧ 0 ≤ l'' ∧ l'' ≤ l' ∧ P x)
  (h2 : ∀ l', body (l', (a.l.length : Int)) = some (.inr (.inl l'))) :
  SzOk ((aM_ body (l, 0)).bind fun y => Sum.elim (fun y => some y) (fun y => some y) y) l (∀ x ∈ a.l, P x) := by
 suffices H : ∀ (k i : Nat), i + k = a.l.length → ∀ l', 0 ≤ l' → l' ≤ l → (aM_ body (l', (i : Int)) = some (.inr (-1))) ∨ ∃ l'', aM_ body (l', (i : Int)) = some (.inl l'') ∧ 0 ≤ l'' ∧ l'' ≤ l' ∧ ∀ x ∈ a.l.drop i, P x by
  rcases H a.l.length 0 (by simp) l h0 (by omega) with h | ⟨l', h, h3⟩
  ·have h : aM_ body (l, 0) = some (.inr (-1)) := h
   rw [h]; exact .inl rfl
  ·have h : aM_ body (l, 0) = some (.inl l') := h
   rw [h]; exact .inr ⟨l', rfl, by simpa using h3⟩
 intro k
 induction k with
 | zero =>
  intro i hi l' hl0 hl
  have : i = a.l.length := by omega
  subst this
  exact .inr ⟨l', aL_ (h2 l'), hl0, by omega, by simp⟩
 | succ k ih =>
  intro i hi l' hl0 hl
  have ha : i < a.l.length := by omega
  have ea : a.l[i]? = some a.l[i] := List.getElem?_eq_getElem ha
  rcases h1 i _ l' ea hl0 hl with h | ⟨l2, h, h3, h4, h5⟩
  ·exact .inl (aL_ h)
  ·have hc : ((i + 1 : Nat) : Int) = (i : Int) + 1 := by simp
   rcases ih (i + 1) (by omega) l2 h3 (by omega) with q | ⟨l3, q, q1, q2, q3⟩
   ·rw [hc] at q
    exact .inl (a3_ h q)
   ·rw [hc] at q
    refine .inr ⟨l3, a3_ h q, q1, by omega, ?_⟩
    rw [List.drop_eq_getElem_cons ha]
    intro x hx
    rcases List.mem_cons.1 hx with rfl | hx
    ·exact h5
    ·exact q3 x hx
/- copies -/
def FitS {α : Type} (n : Nat) (F : α → Prop) (s : Sl α) : Prop := s.l.length ≤ n ∧ ∀ x ∈ s.l, F x
theorem l1_ {α : Type} {P : α → Prop} {a : Sl α} {body : Int × Int → Option ((Int × Int) ⊕ (Int ⊕ Int))} {l : Int} (h0 : 0 ≤ l) (h20 : l ≤ 1048576) (hb : a.l.length ≤ maxLen)
  (h1 : ∀ (i : Nat) x l', x ∈ a.l → i < a.l.length → elt a (i : Int) = some x → 0 ≤ l' → l' ≤ l → body (l', i) = some (.inr (.inr (-1))) ∨ ∃ l'', body (l', i) = some (.inl (l'', (i : Int) + 1)) ∧ 0 ≤ l'' ∧ l'' ≤ l' ∧ P x)
  (h2 : ∀ l', body (l', (a.l.length : Int)) = some (.inr (.inl l'))) :
  SzOk (if decide (w4 (l - (a.l.length : Int)) < 0) = true then some (-1) else (aM_ body (w4 (l - (a.l.length : Int)), 0)).bind fun y => Sum.elim (fun y => some y) (fun y => some y) y) l (FitS 1048576 P a) := by
 have hm : maxLen = 9223372036854775807 := by decide
 rw [hm] at hb
 rw [ew_ (by omega) (by omega)]
 refine pi_ (by omega) (fun hn => ?_)
 exact (pM_ hn (fun i x l' hx q1 q2 => h1 i x l' (List.mem_of_getElem? hx) (List.getElem?_eq_some_iff.1 hx).1 (jN_ hx) q1 (by omega)) h2).imp (Int.le_refl _) (fun q => ⟨by omega, q⟩)
theorem nF_ {α : Type} {p : Prop} {a : Sl α} {x : α} {i : Nat} {n l : Int} {e : Option ((Int × Int) ⊕ (Int ⊕ Int))} {G : α → Option Int} (hi : (i : Int) < n) (hx : elt a (i : Int) = some x) (hG : SzOk (G x) l p) (hn : n < 9223372036854775808) :
  (if decide ((i : Int) < n) = true then (elt a (i : Int)).bind fun y2 => (G y2).bind fun y3 => if decide (y3 < 0) = true then some (.inr (.inr (-1))) else some (.inl (y3, w4 ((i : Int) + 1))) else e) = some (.inr (.inr (-1))) ∨
  ∃ l'', (if decide ((i : Int) < n) = true then (elt a (i : Int)).bind fun y2 => (G y2).bind fun y3 => if decide (y3 < 0) = true then some (.inr (.inr (-1))) else some (.inl (y3, w4 ((i : Int) + 1))) else e) = some (.inl (l'', (i : Int) + 1)) ∧ 0 ≤ l'' ∧ l'' ≤ l ∧ p := by
 rw [if_pos (by simpa using hi), hx, ew_ (by omega) (by omega)]
 rcases hG with h | ⟨l', h, h2, h3, h4⟩
 ·left; simp [h]
 ·right
  refine ⟨l', ?_, h2, h3, h4⟩
  simp only [Option.bind_some, h]
  rw [if_neg (by simp; omega)]
/- comparisons, put together -/
end Go.Am
end
section
set_option linter.unusedVariables false
set_option linter.unusedSimpArgs false
namespace Go.Am
section
variable {P : Program} {t : TypeId} {d : Nat} {ts : List T}
theorem hD_ (kt : aG_ P t = 7) (h : Shp P d t ts) : ∃ d', ShpF P (Shp P d') ((bA_ P t).map (·.type)) ts := by
 cases d with
 | zero => exact h.elim
 | succ d =>
  rcases h with h | h | h | h | h
  ·rw [kt] at h; exact absurd h.1 (by decide)
  ·simp [ct_, kt] at h
  ·rw [kt] at h; exact absurd h.1 (by decide)
  ·rw [kt] at h; exact absurd h.1 (by decide)
  ·exact ⟨d, h.2⟩
theorem pS_ (kt : aG_ P t = 3) (h : Shp P d t ts) : ∃ s : ByteArray, ts = [.str s] ∧ s.size ≤ maxLen := by
 cases d with
 | zero => exact h.elim
 | succ d =>
  rcases h with h | h | h | h | h
  ·rw [kt] at h; exact absurd h.1 (by decide)
  ·simp [ct_, kt] at h
  ·exact h.2
  ·rw [kt] at h; exact absurd h.1 (by decide)
  ·rw [kt] at h; exact absurd h.1 (by decide)
theorem p3_ {k : IntKind} (hu : P.underlying t = some (.int k)) (kt : aG_ P t = 2) (h : Shp P d t ts) : ∃ n : Int, ts = [.int k n] := by
 cases d with
 | zero => exact h.elim
 | succ d =>
  rcases h with h | h | h | h | h
  ·rw [kt] at h; exact absurd h.1 (by decide)
  ·obtain ⟨_, k', n, h1, h2, _⟩ := h
   rw [hu] at h1
   injection h1 with h1; injection h1 with h1; subst h1
   exact ⟨n, h2⟩
  ·rw [kt] at h; exact absurd h.1 (by decide)
  ·rw [kt] at h; exact absurd h.1 (by decide)
  ·rw [kt] at h; exact absurd h.1 (by decide)
theorem o8_ {α : Type} [Enc α] {B : α → Prop} : ∀ (els : List (List T)), (∀ el ∈ els, ∃ x : α, el = Enc.cells x ∧ B x) → ∃ l : List α, els.flatten = av_ l ∧ l.length = els.length ∧ ∀ x ∈ l, B x
 | [], _ => ⟨[], rfl, rfl, fun _ h => absurd h (by simp)⟩
 | el :: els, h => by
  obtain ⟨x, rfl, hx⟩ := h el (by simp)
  obtain ⟨l, h1, h2, h3⟩ := o8_ els (fun e he => h e (by simp [he]))
  refine ⟨x :: l, by simp [av_, h1], by simp [h2], fun y hy => ?_⟩
  rcases List.mem_cons.1 hy with rfl | hy
  ·exact hx
  ·exact h3 y hy
theorem o5_ {α : Type} [Enc α] {B : α → Prop} {e : TypeId} (kt : aG_ P t = 4) (he : ay_ P t = some e) (hd : ∀ d ts, Shp P d e ts → ∃ x : α, ts = Enc.cells x ∧ B x) (h : Shp P d t ts) : ∃ x : Sl α, ts = [Sl.t x] ∧ FitS maxLen B x := by
 cases d with
 | zero => exact h.elim
 | succ d =>
  rcases h with h | h | h | h | h
  ·rw [kt] at h; exact absurd h.1 (by decide)
  ·simp [ct_, kt] at h
  ·rw [kt] at h; exact absurd h.1 (by decide)
  ·obtain ⟨_, e', h1, h2⟩ := h
   rw [he] at h1
   injection h1 with h1; subst h1
   rcases h2 with rfl | ⟨els, rfl, h2, h3⟩
   ·exact ⟨⟨true, []⟩, rfl, ⟨by simp, by simp⟩⟩
   ·obtain ⟨l, q1, q2, q3⟩ := o8_ (B := B) els (fun el hel => hd d el (h3 el hel).2)
    exact ⟨⟨false, l⟩, by simp [Sl.t, q1, q2], ⟨by show l.length ≤ maxLen; omega, q3⟩⟩
  ·rw [kt] at h; exact absurd h.1 (by decide)
end
end Go.Am
end
section
set_option linter.unusedVariables false
set_option linter.unusedSimpArgs false
namespace Go.Am
theorem aW_ {α : Type} {s : Sl α} {i : Nat} (h : i < s.l.length) : elt s (i : Int) = some s.l[i] := jN_ (List.getElem?_eq_getElem h)
theorem lG_ {α : Type} {s : Sl α} {i : Nat} {x : α} (h : i < s.l.length) : elt (setS s (i : Int) x) (i : Int) = some x := by
 refine jN_ ?_; simp [setS, h]
theorem jz_ {α : Type} {s : Sl α} {i : Int} {x y : α} : setS (setS s i x) i y = setS s i y := by simp [setS, List.set_set]
@[simp] theorem sH_ {α : Type} {s : Sl α} {i : Int} {x : α} : (setS s i x).l.length = s.l.length := by simp [setS]
theorem cM_ {n : Int} (h0 : 0 ≤ n) (h1 : n ≤ 4611686018427387904) : w4 n = n := ew_ (by omega) (by omega)
theorem maxLen_eq : maxLen = 9223372036854775807 := by decide
theorem mo_ {α β : Type} (f : α → β) {a : Sl α} {by_ : Nat} {z : β} {body : Int × Sl β → Option ((Int × Sl β) ⊕ Sl β)} (hn : a.l.length ≤ 1048576) (hb : 1048576 * by_ ≤ 1099511627776)
  (h1 : ∀ (i : Nat) x (s : Sl β), x ∈ a.l → i < a.l.length → i < s.l.length → elt a (i : Int) = some x → body (i, s) = some (.inl ((i : Int) + 1, setS s i (f x))))
  (h2 : ∀ s, body ((a.l.length : Int), s) = some (.inr s)) :
  ((mkS by_ z (a.l.length : Int) (a.l.length : Int)).bind fun y1 => (aM_ body (0, y1)).bind fun y2 => some y2) = some ⟨false, a.l.map f⟩ := by
 have hm : mkS by_ z (a.l.length : Int) (a.l.length : Int) = some ⟨false, List.replicate a.l.length z⟩ := by
  have : a.l.length * by_ ≤ 1048576 * by_ := Nat.mul_le_mul_right _ hn
  unfold mkS
  rw [if_pos]
  ·simp
  ·refine ⟨by omega, by omega, ?_, by omega, fun h => h⟩
   have : ((a.l.length * by_ : Nat) : Int) ≤ 1099511627776 := by omega
   simpa using this
 rw [hm]
 suffices H : ∀ (k i : Nat), i + k = a.l.length → ∀ s : Sl β, s.z = false → s.l.length = a.l.length → (∀ j, j < i → s.l[j]? = (a.l.map f)[j]?) → aM_ body ((i : Int), s) = some ⟨false, a.l.map f⟩ by
  have q := H a.l.length 0 (by simp) ⟨false, List.replicate a.l.length z⟩ rfl (by simp) (by intro j h; omega)
  have q : aM_ body (0, ⟨false, List.replicate a.l.length z⟩) = _ := q
  show (aM_ body (0, ⟨false, List.replicate a.l.length z⟩)).bind _ = _
  rw [q]; rfl
 intro k
 induction k with
 | zero =>
  intro i hi s hz hs hP
  have : i = a.l.length := by omega
  subst this
  rw [aL_ (h2 s)]
  obtain ⟨sz, sl⟩ := s
  simp only at hz hs hP
  subst hz
  congr 2
  refine List.ext_getElem? fun j => ?_
  by_cases hj : j < a.l.length
  ·exact hP j hj
  ·rw [List.getElem?_eq_none (by omega), List.getElem?_eq_none (by simp; omega)]
 | succ k ih =>
  intro i hi s hz hs hP
  have ha : i < a.l.length := by omega
  have hi' : i < s.l.length := by omega
  have q1 := h1 i a.l[i] s (List.getElem_mem ha) ha hi' (aW_ ha)
  have p1 := ih (i + 1) (by omega) (setS s i (f a.l[i])) hz (by simp [hs]) (by
   intro j hj
   simp only [setS, Int.toNat_natCast, List.getElem?_set]
   by_cases hij : i = j
   ·subst hij; simp [hi', ha]
   ·rw [if_neg hij]; exact hP j (by omega))
  have hc : ((i + 1 : Nat) : Int) = (i : Int) + 1 := by simp
  rw [hc] at p1
  exact a3_ q1 p1
theorem gX_ {n : Nat} {R : Type} {p : Nat → Prop} {bd : Int → Option (Int ⊕ R)} {x y : R} (j0 : Nat) (hn : n < 9223372036854775807) (h1 : ∀ i : Nat, j0 ≤ i → i < n → p i → bd i = some (.inl (w4 ((i : Int) + 1)))) (h2 : ∀ i : Nat, j0 ≤ i → i < n → ¬ p i → bd i = some (.inr y)) :
  ((∀ i, j0 ≤ i → i < n → p i) → aM_ (fun st1 : Int => if decide (st1 < (n : Int)) = true then bd st1 else some (.inr x)) (j0 : Int) = some x) ∧
  (¬ (∀ i, j0 ≤ i → i < n → p i) → aM_ (fun st1 : Int => if decide (st1 < (n : Int)) = true then bd st1 else some (.inr x)) (j0 : Int) = some y) := by
 suffices H : ∀ k i0, j0 ≤ i0 → n - i0 = k → ((∀ i, i0 ≤ i → i < n → p i) → aM_ (fun st1 : Int => if decide (st1 < (n : Int)) = true then bd st1 else some (.inr x)) (i0 : Int) = some x) ∧
  (¬ (∀ i, i0 ≤ i → i < n → p i) → aM_ (fun st1 : Int => if decide (st1 < (n : Int)) = true then bd st1 else some (.inr x)) (i0 : Int) = some y) from H _ j0 (Nat.le_refl _) rfl
 intro k
 induction k with
 | zero =>
  intro i0 _ hk
  refine ⟨fun _ => aL_ (by rw [if_neg (by simp; omega)]), fun h => absurd (fun i h1 h2 => by omega) h⟩
 | succ k ih =>
  intro i0 hj hk
  have hlt : i0 < n := by omega
  obtain ⟨q1, q2⟩ := ih (i0 + 1) (by omega) (by omega)
  have hc : ((i0 + 1 : Nat) : Int) = (i0 : Int) + 1 := by simp
  rw [hc] at q1 q2
  by_cases hp : p i0
  ·have hb := h1 i0 hj hlt hp
   rw [ew_ (by omega) (by omega)] at hb
   refine ⟨fun h => a3_ (by rw [if_pos (by simp; omega)]; exact hb) (q1 fun i hi hn => h i (by omega) hn), fun h => a3_ (by rw [if_pos (by simp; omega)]; exact hb) (q2 fun w => h fun i hi hn => ?_)⟩
   by_cases e : i = i0
   ·subst e; exact hp
   ·exact w i (by omega) hn
  ·refine ⟨fun h => absurd (h i0 (Nat.le_refl _) hlt) hp, fun _ => aL_ (by rw [if_pos (by simp; omega)]; exact h2 i0 hj hlt hp)⟩
theorem nJ_ {n : Nat} {p : Nat → Prop} {bd : Int → Option (Int ⊕ Int)} (hn : n < 9223372036854775807) (h1 : ∀ i : Nat, i < n → p i → bd i = some (.inl (w4 ((i : Int) + 1)))) (h2 : ∀ i : Nat, i < n → ¬ p i → bd i = some (.inr (i : Int))) :
  ∃ r : Nat, r ≤ n ∧ aM_ (fun st1 : Int => if decide (st1 < (n : Int)) = true then bd st1 else some (.inr st1)) 0 = some (r : Int) ∧ (r = n ↔ ∀ i, i < n → p i) := by
 suffices H : ∀ k i0, n - i0 = k → i0 ≤ n → (∀ i, i < i0 → p i) → ∃ r : Nat, r ≤ n ∧ aM_ (fun st1 : Int => if decide (st1 < (n : Int)) = true then bd st1 else some (.inr st1)) (i0 : Int) = some (r : Int) ∧ (r = n ↔ ∀ i, i < n → p i) from H n 0 (by omega) (by omega) (by intro i h; omega)
 intro k
 induction k with
 | zero =>
  intro i0 hk hle hp
  have : i0 = n := by omega
  subst this
  exact ⟨i0, Nat.le_refl _, aL_ (by rw [if_neg (by simp)]), by simpa using hp⟩
 | succ k ih =>
  intro i0 hk hle hp
  have hlt : i0 < n := by omega
  by_cases hq : p i0
  ·obtain ⟨r, r1, r2, r3⟩ := ih (i0 + 1) (by omega) (by omega) fun i hi => by
    by_cases e : i = i0
    ·subst e; exact hq
    ·exact hp i (by omega)
   have hb := h1 i0 hlt hq
   rw [ew_ (by omega) (by omega)] at hb
   have hc : ((i0 + 1 : Nat) : Int) = (i0 : Int) + 1 := by simp
   rw [hc] at r2
   exact ⟨r, r1, a3_ (by rw [if_pos (by simp; omega)]; exact hb) r2, r3⟩
  ·exact ⟨i0, hle, aL_ (by rw [if_pos (by simp; omega)]; exact h2 i0 hlt hq), ⟨fun e => by omega, fun w => absurd (w i0 hlt) hq⟩⟩
noncomputable def says (p : Prop) : Bool := @decide p (Classical.propDecidable p)
theorem aU_ {p q : Prop} (h : p ↔ q) : says p = says q := by rw [propext h]
theorem aZ_ {p : Prop} (h : p) : says p = true := by simp [says, h]
theorem aS_ {p : Prop} (h : ¬ p) : says p = false := by simp [says, h]
theorem cs_ {p : Prop} : says p = true ↔ p := by simp [says]
theorem e0_ {c p : Prop} [Decidable c] {K : Option Bool} (h : c → K = some (says p)) : (if decide c = true then K else some false) = some (says (c ∧ p)) := by
 by_cases hc : c
 ·rw [if_pos (by simp [hc]), h hc]; congr 1; exact aU_ ⟨fun w => ⟨hc, w⟩, fun w => w.2⟩
 ·rw [if_neg (by simp [hc]), aS_ fun w => hc w.1]
theorem s_gt {a b : Int} {p : Prop} {K : Option Bool} (h : b ≤ a → K = some (says p)) : (if decide (a < b) = true then some false else K) = some (says (b ≤ a ∧ p)) := by
 by_cases hc : a < b
 ·rw [if_pos (by simp [hc]), aS_ fun w => by omega]
 ·rw [if_neg (by simp [hc]), h (by omega)]; congr 1; exact aU_ ⟨fun w => ⟨by omega, w⟩, fun w => w.2⟩
theorem fN_ {c p : Prop} {o K : Option Bool} (ho : o = some (says c)) (h : c → K = some (says p)) : (o.bind fun y => if (!y) = true then some false else K) = some (says (c ∧ p)) := by
 rw [ho, Option.bind_some]
 by_cases hc : c
 ·rw [aZ_ hc, if_neg (by simp), h hc]; congr 1; exact aU_ ⟨fun w => ⟨hc, w⟩, fun w => w.2⟩
 ·rw [aS_ hc, if_pos (by simp), aS_ fun w => hc w.1]
theorem dl_ {c p : Prop} {o K : Option Bool} (ho : o = some (says c)) (h : c → K = some (says p)) : (o.bind fun y => if y = true then K else some false) = some (says (c ∧ p)) := by
 rw [ho, Option.bind_some]
 by_cases hc : c
 ·rw [aZ_ hc, if_pos rfl, h hc]; congr 1; exact aU_ ⟨fun w => ⟨hc, w⟩, fun w => w.2⟩
 ·rw [aS_ hc, if_neg (by simp), aS_ fun w => hc w.1]
theorem lX_ {c p : Prop} {o K : Option Bool} (ho : o = some (says c)) (h : ¬ c → K = some (says p)) : (o.bind fun y => if y = true then some true else K) = some (says (c ∨ p)) := by
 rw [ho, Option.bind_some]
 by_cases hc : c
 ·rw [aZ_ hc, if_pos rfl, aZ_ (.inl hc)]
 ·rw [aS_ hc, if_neg (by simp), h hc]; congr 1; exact aU_ ⟨fun w => .inr w, fun w => w.resolve_left hc⟩
theorem cN_ {c : Prop} {o : Option Bool} (ho : o = some (says c)) : (o.bind fun y => some y) = some (says c) := by rw [ho]; rfl
theorem ea_ {c : Prop} [Decidable c] : some (decide c) = some (says c) := by by_cases h : c <;> simp [says, h]
theorem gQ_ {o : Option Bool} {p q : Prop} (h : o = some (says p)) (hi : p ↔ q) : o = some (says q) := by rw [h, aU_ hi]
theorem gR_ {n : Nat} {p : Nat → Prop} {bd : Int → Option (Int ⊕ (Unit ⊕ Bool))} (i0 : Nat) (hn : n < 9223372036854775807) (h1 : ∀ i : Nat, i0 ≤ i → i < n → p i → bd i = some (.inl (w4 ((i : Int) + 1)))) (h2 : ∀ i : Nat, i0 ≤ i → i < n → ¬ p i → bd i = some (.inr (.inr false))) :
  ((aM_ (S := Int) (R := Unit ⊕ Bool) (fun st1 : Int => if decide (st1 < (n : Int)) = true then bd st1 else some (.inr (.inl ()))) (i0 : Int)).bind fun y => Sum.elim (fun _ => some true) (fun y => some y) y) = some (says (∀ i, i0 ≤ i → i < n → p i)) := by
 obtain ⟨q1, q2⟩ := gX_ (R := Unit ⊕ Bool) (x := .inl ()) (y := .inr false) i0 hn h1 h2
 by_cases h : ∀ i, i0 ≤ i → i < n → p i
 ·rw [q1 h, aZ_ h]; rfl
 ·rw [q2 h, aS_ h]; rfl
theorem gO_ {α : Type} {a : Sl α} {p : α → Prop} {bd : Int → Option (Int ⊕ (Unit ⊕ Bool))} (hn : a.l.length < 9223372036854775807) (h : ∀ (i : Nat) x, x ∈ a.l → elt a (i : Int) = some x → (p x → bd i = some (.inl (w4 ((i : Int) + 1)))) ∧ (¬ p x → bd i = some (.inr (.inr false)))) :
  ((aM_ (S := Int) (R := Unit ⊕ Bool) (fun st1 : Int => if decide (st1 < (a.l.length : Int)) = true then bd st1 else some (.inr (.inl ()))) 0).bind fun y => Sum.elim (fun _ => some true) (fun y => some y) y) = some (says (∀ x ∈ a.l, p x)) := by
 have := gR_ (p := fun i => ∀ x, a.l[i]? = some x → p x) (bd := bd) 0 hn (fun i _ hi hp => (h i _ (List.getElem_mem hi) (aW_ hi)).1 (hp _ (List.getElem?_eq_getElem hi))) (fun i _ hi hp => (h i _ (List.getElem_mem hi) (aW_ hi)).2 fun q => hp fun x hx => by rw [List.getElem?_eq_getElem hi] at hx; injection hx with hx; exact hx ▸ q)
 refine Eq.trans this (congrArg some (aU_ ⟨fun w x hx => ?_, fun w i _ hi x hx => w x (List.mem_of_getElem? hx)⟩))
 obtain ⟨i, hi, rfl⟩ := List.getElem_of_mem hx
 exact w i (Nat.zero_le _) hi _ (List.getElem?_eq_getElem hi)
theorem ob_ {α : Type} {P : α → Prop} {N : Nat} {mb : Int × Int × Sl α → Option ((Int × Int × Sl α) ⊕ (Int × Sl α))} {hb : Sl α → Int × Int → Option ((Int × Int) ⊕ (Int ⊕ Int))} {s : Sl α} (hs : ∀ x ∈ s.l, P x) {k : Int} (hk : 0 ≤ k) (hN : k + s.l.length * N ≤ 4611686018427387904) (hl : (s.l.length : Int) < 4611686018427387904)
  (hm : ∀ (k : Int) (i : Nat) (t : Sl α) (x : α), elt t (i : Int) = some x → i < t.l.length → t.l.length = s.l.length → P x → 0 ≤ k → k + N ≤ 4611686018427387904 → ∃ k' x', mb (k, i, t) = some (.inl (k', (i : Int) + 1, setS t i x')) ∧ k ≤ k' ∧ k' ≤ k + N ∧ ∀ t' : Sl α, t'.l.length = s.l.length → elt t' (i : Int) = some x' → i < t'.l.length → hb t' (k, i) = some (.inl (k', (i : Int) + 1)))
  (h1 : ∀ k (t : Sl α), mb (k, (t.l.length : Int), t) = some (.inr (k, t))) (h2 : ∀ k (t : Sl α), hb t (k, (t.l.length : Int)) = some (.inr (.inl k))) :
  ∃ k' t', aM_ mb (k, 0, s) = some (k', t') ∧ t'.l.length = s.l.length ∧ aM_ (hb t') (k, 0) = some (.inl k') ∧ k ≤ k' ∧ k' ≤ k + s.l.length * N := by
 suffices H : ∀ (m i : Nat), i + m = s.l.length → ∀ (k : Int) (t : Sl α), 0 ≤ k → k + m * N ≤ 4611686018427387904 → t.l.length = s.l.length → (∀ j x, i ≤ j → t.l[j]? = some x → P x) →
   ∃ k' t', aM_ mb (k, (i : Int), t) = some (k', t') ∧ t'.l.length = s.l.length ∧ (∀ j, j < i → t'.l[j]? = t.l[j]?) ∧ aM_ (hb t') (k, (i : Int)) = some (.inl k') ∧ k ≤ k' ∧ k' ≤ k + m * N by
  obtain ⟨k', t', q1, q2, _, q3, q4⟩ := H s.l.length 0 (by simp) k s hk hN rfl fun j x _ hx => hs x (List.mem_of_getElem? hx)
  exact ⟨k', t', q1, q2, q3, q4⟩
 intro m
 induction m with
 | zero =>
  intro i hi k t hk hkN ht _
  have : (i : Int) = (t.l.length : Int) := by omega
  rw [this]
  exact ⟨k, t, aL_ (h1 k t), ht, fun _ _ => rfl, aL_ (h2 k t), by omega, by simp⟩
 | succ m ih =>
  intro i hi k t hk hkN ht hP
  have hit : i < t.l.length := by omega
  have hmN : ((m + 1 : Nat) : Int) * N = m * N + N := by rw [Int.natCast_add]; simp [Int.add_mul]
  have hmp : (0 : Int) ≤ (m : Int) * N := Int.mul_nonneg (by omega) (by omega)
  rw [hmN] at hkN
  obtain ⟨k1, x', q1, q2, q3, q4⟩ := hm k i t _ (aW_ hit) hit ht (hP i _ (Nat.le_refl _) (List.getElem?_eq_getElem hit)) hk (by omega)
  obtain ⟨k2, t2, r1, r2, r3, r4, r5, r6⟩ := ih (i + 1) (by omega) k1 (setS t i x') (by omega) (by omega) (by simp [ht]) (fun j x hj hx => by
   simp only [setS, Int.toNat_natCast, List.getElem?_set] at hx
   rw [if_neg (by omega)] at hx
   exact hP j x (by omega) hx)
  have hc : ((i + 1 : Nat) : Int) = (i : Int) + 1 := by simp
  rw [hc] at r1 r4
  have hx : t2.l[i]? = some x' := by rw [r3 i (by omega)]; simp [setS, hit]
  refine ⟨k2, t2, a3_ q1 r1, r2, fun j hj => ?_, a3_ (q4 t2 r2 (jN_ hx) (by omega)) r4, by omega, by rw [hmN]; omega⟩
  rw [r3 j (by omega)]
  simp only [setS, Int.toNat_natCast, List.getElem?_set]
  rw [if_neg (by omega)]
def MH {α : Type} (B : α → Int → Option (Int × α)) (F : α → Int → Option Int) (N : Nat) (x : α) : Prop :=
 ∀ k : Int, 0 ≤ k → k + N ≤ 4611686018427387904 → ∃ k' x', B x k = some (k', x') ∧ F x' k = some k' ∧ k ≤ k' ∧ k' ≤ k + N
theorem MH.mono {α : Type} {B : α → Int → Option (Int × α)} {F : α → Int → Option Int} {N M : Nat} {x : α} (h : MH B F N x) (hm : N ≤ M) : MH B F M x := fun k h0 h1 => by
 obtain ⟨k', x', q1, q2, q3, q4⟩ := h k h0 (by omega)
 exact ⟨k', x', q1, q2, q3, by omega⟩
theorem mc_ {α : Type} {by_ : Nat} {z : Bool} {a : List α} {x : α} (h : (a.length + 1) * by_ ≤ 1099511627776) : appS by_ (⟨z, a⟩ : Sl α) ⟨false, [x]⟩ = some ⟨false, a ++ [x]⟩ := by
 simp only [appS, List.length_singleton]; rw [if_pos h]
theorem jX_ {α : Type} {by_ : Nat} {a : Sl α} (h : a.l.length * by_ ≤ 1099511627776) : appS by_ (⟨false, []⟩ : Sl α) a = some ⟨false, a.l⟩ := by
 obtain ⟨z, l⟩ := a
 cases l with
 | nil => rfl
 | cons x l => simp only [appS, List.length_nil, Nat.zero_add, List.nil_append]; rw [if_pos h]
theorem md_ {α β : Type} (f : α → β) {a : Sl α} {body : Int × Sl β → Option ((Int × Sl β) ⊕ Sl β)} (hn : a.l.length < 9223372036854775807)
  (h1 : ∀ (i : Nat) x (s : Sl β), x ∈ a.l → i < a.l.length → s.l.length = i → elt a (i : Int) = some x → body (i, s) = some (.inl ((i : Int) + 1, ⟨false, s.l ++ [f x]⟩)))
  (h2 : ∀ s, body ((a.l.length : Int), s) = some (.inr s)) : aM_ body (0, ⟨true, []⟩) = some ⟨a.l.isEmpty, a.l.map f⟩ := by
 suffices H : ∀ (k i : Nat), i + k = a.l.length → ∀ s : Sl β, s.l = (a.l.take i).map f → s.z = (a.l.take i).isEmpty → aM_ body ((i : Int), s) = some ⟨a.l.isEmpty, a.l.map f⟩ by
  exact H a.l.length 0 (by simp) ⟨true, []⟩ rfl rfl
 intro k
 induction k with
 | zero =>
  intro i hi s hs hz
  have : i = a.l.length := by omega
  subst this
  rw [aL_ (h2 s)]
  obtain ⟨sz, sl⟩ := s
  simp only [List.take_length] at hs hz
  rw [hs, hz]
 | succ k ih =>
  intro i hi s hs hz
  have ha : i < a.l.length := by omega
  have q1 := h1 i a.l[i] s (List.getElem_mem ha) ha (by rw [hs]; simp; omega) (aW_ ha)
  have ht : a.l.take (i + 1) = a.l.take i ++ [a.l[i]] := by rw [List.take_add_one, List.getElem?_eq_getElem ha]; rfl
  have p1 := ih (i + 1) (by omega) ⟨false, s.l ++ [f a.l[i]]⟩ (by rw [ht, List.map_append, hs]; rfl) (by rw [ht]; cases a.l.take i <;> rfl)
  have hc : ((i + 1 : Nat) : Int) = (i : Int) + 1 := by simp
  rw [hc] at p1
  exact a3_ q1 p1
end Go.Am
end
