/- The abstract machine. -/
import Derived.Test.YtnihabnkoegdjaaAm4
import Derived.Laws.Externs
section
set_option linter.unusedVariables false
set_option linter.unusedSimpArgs false
namespace Go.Am
section
variable {P : Program} {O : aH_} {ops : Array Oper} {l : List Oper} {K : Fr → Prop} {s : Nat → T} {σ σ0 : St} {L : List (Nat × T)} {es ents : List Ent}
variable {d : Option Nat} {ty : TypeId} {ps : String} {af : Array Edge} {g : Option (Nat × Bool)}
theorem Heap.toFrt {z : Bool} {w : Nat} {t v : T} (h : Heap σ0 σ (.own z w t v :: es)) : Heap σ0 σ (.frt z w t v :: es) :=
 Heap.step (es1 := [.own z w t v]) (es2 := [.frt z w t v]) (es := es) h (Nat.le_refl _) fun S hS hnd hbd => by
  obtain ⟨S1, F1, rfl, h1, hnil⟩ := hS
  exact ⟨S1 ++ F1, ⟨S1, F1, rfl, .inl h1, hnil⟩, hnd, fun b hb => .inl hb, fun _ _ _ => rfl⟩
theorem Heap.ofFrt {α : Type} [Enc α] {z : Bool} {w : Nat} {t : T} {a : Sl α} (h : Heap σ0 σ (.frt z w t a.t :: es)) (ha : (a.z || !decide (a.l.length = 0)) = true) : Heap σ0 σ (.own z w t a.t :: es) :=
 Heap.step (es1 := [.frt z w t a.t]) (es2 := [.own z w t a.t]) (es := es) h (Nat.le_refl _) fun S hS hnd hbd => by
  obtain ⟨S1, F1, rfl, h1, hnil⟩ := hS
  refine ⟨S1 ++ F1, ⟨S1, F1, rfl, ?_, hnil⟩, hnd, fun b hb => .inl hb, fun _ _ _ => rfl⟩
  rcases h1 with h1 | ⟨hv, _⟩
  ·exact h1
  ·have hv : T.row a.z a.l.length (al_ a.l) = .row false 0 [] := hv
   injection hv with h1 h2 _
   rw [h1, h2] at ha; simp at ha
theorem nX_ {α : Type} [Enc α] {x hi : Operand} {t e : TypeId} {t1 : T} {a : Sl α} {w : Nat} {kk : IntKind} (hw : want ops L g = some true) (hS : Sub L s) (hH : Heap σ0 σ (.own true w t1 a.t :: es)) (hx : gE (get L) x = some t1) (hhi : gE (get L) hi = some (.int kk 0))
  (he : ap_ P t = some e) (hz : szOf P e = some (Enc.w α)) (hsz : Nat.beq (Enc.w α) 0 = false) (hne : (!decide (a.l.length = 0)) = true)
  (k : ∀ t' s', ao_ t' → Heap σ0 σ (.frt true (Enc.w α) t' (Sl.t (⟨false, []⟩ : Sl α)) :: es) → Sub (putL L d t') s' → opsX P O ops .q l K ⟨s', σ⟩) : opsX P O ops .q (⟨d, .slice t x none (some hi) none, ty, ps, af, g⟩ :: l) K ⟨s, σ⟩ := by
 have hne : a.l.length ≠ 0 := by simpa using hne
 have hsz := Nat.ne_of_beq_eq_false hsz
 obtain ⟨S, ⟨ht, hwd, k', h2⟩, _, _⟩ := hH.head
 have ea : a.t = .row a.z a.l.length (al_ a.l) := rfl
 rw [ea] at h2
 rcases cj_ ht h2 with ⟨rfl, hz, hn0, hcs, rfl⟩ | ⟨rfl, hz, hn0, hcs, rfl⟩ | ⟨hzz, x', B, S', k'', rfl, hB, c1, c3, c5, c6, c7, h3, rfl⟩
 ·exact absurd hn0 hne
 ·exact absurd hn0 hne
 ·have hesz := iU_ c5 h3 (by omega)
  refine dB_ hw hS (v := .ref x' B.ep 0 0) (fun kk σ' ha' => ?_) (fun s' hs' => k _ s' ⟨rfl, rfl⟩ ?_ hs')
  ·obtain rfl := ha'
   rw [jj_, aj_ hS hx, Option.bind_some, ed_, Option.bind_some]
   show ((Option.map some (evalO s hi)).bind _) = _
   rw [aj_ hS hhi, Option.map_some, Option.bind_some, Option.bind_some, iY_]
   simp only [okO, Bool.and_self, if_true, io_, he, hz, hB, Option.bind_some, boundA]
   simp [hesz, c3, hsz]
  ·refine Heap.step (es1 := [.own true w (.ref x' B.ep 0 a.l.length) a.t]) (es2 := [.frt true (Enc.w α) (.ref x' B.ep 0 0) (Sl.t (⟨false, []⟩ : Sl α))]) (es := es) hH (Nat.le_refl _) fun S hS hnd hbd => ?_
   obtain ⟨S1, F1, rfl, ⟨_, _, k5, h5⟩, hnil⟩ := hS
   cases hnil
   have hm := ee_ h5
   refine ⟨[x'], ⟨[x'], [], rfl, .inr ⟨rfl, x', B, rfl, rfl, hB, c1 rfl, c3, hesz, hsz⟩, rfl⟩, by simp, fun b hb => .inl ?_, fun _ _ _ => rfl⟩
   simp at hb; subst hb; simpa using hm
def mx_ {α : Type} (by_ : Nat) (x0 : α) (n : Int) : Option (Sl α) := if 0 < n ∧ n * by_ ≤ 1099511627776 then some ⟨false, List.replicate n.toNat x0⟩ else none
theorem rh_ {α : Type} [Enc α] {z : Bool} {x y : Operand} {kk : IntKind} {n : Int} {t t2 e by_ : Nat} {x0 : α} {r : Sl α} (hz0 : ∀ σ d, frzL (hold z σ d) (Enc.cells x0) = some (Enc.cells x0, [])) (hw : want ops L g = some true) (hS : Sub L s) (hH : Heap σ0 σ es)
  (hx : gE (get L) x = some (.row true 0 [])) (hy : gE (get L) y = some (.int kk n)) (he : ap_ P t = some e) (hz : szOf P e = some (Enc.w α)) (hby : bu_ P e = some by_) (hzz : aR_ P e = some (Enc.cells x0))
  (hcl : (bo_ P t2 && !Nat.beq (Enc.w α) 0 && !Nat.beq by_ 0 && Nat.ble by_ 1048576) = true) (hc : mx_ by_ x0 n = some r)
  (k : ∀ t' σ' s', ao_ t' → Heap σ0 σ' (.own z (Enc.w α) t' r.t :: es) → Sub (putL L d t') s' → opsX P O ops .q l K ⟨s', σ'⟩) : opsX P O ops .q (⟨d, .call ⟨.builtin .append, #[x, y], #[t, t2]⟩, ty, ps, af, g⟩ :: l) K ⟨s, σ⟩ := by
 simp only [Bool.and_eq_true, Bool.not_eq_true'] at hcl
 obtain ⟨⟨⟨c1, c2⟩, c3⟩, c4⟩ := hcl
 have c2 := Nat.ne_of_beq_eq_false c2; have c3 := Nat.ne_of_beq_eq_false c3; have c4 := Nat.le_of_ble_eq_true c4
 unfold mx_ at hc
 split at hc
 ·rename_i hh
  injection hc with hc; subst hc
  have hlen : ((List.replicate n.toNat (Enc.cells x0)).flatten).length = n.toNat * Enc.w α := by simp [Enc.len]
  have hfr : ∀ (σ' : St) (m : Nat), frzL (hold z σ' 0) (al_ (List.replicate m x0)) = some (al_ (List.replicate m x0), []) := fun σ' m => by
   induction m with
   | zero => rfl
   | succ m ih => simpa [List.replicate_succ, al_] using cq_ (hz0 σ' 0) ih
  have hrow : Sl.t (⟨false, List.replicate n.toNat x0⟩ : Sl α) = .row false n.toNat (al_ (List.replicate n.toNat x0)) := by simp [Sl.t]
  refine kI_ (v := .ref σ.next 0 0 n.toNat) (σ' := σ.pushK none (aF_ ((List.replicate n.toNat (Enc.cells x0)).flatten) (Enc.w α))) (az_ hS hw) ?_ ?_
  ·have ev : bh_ s [x, y] = some [.row true 0 [], .int kk n] := by simp only [bh_, aj_ hS hx, aj_ hS hy, Option.bind_some, Option.map_some]
   show ((bh_ s [x, y]).bind fun args => match args, [t, t2] with | [x, y], [t, t2] => (aX_ P none σ t t2 x y).map fun (x, σ) => ARes.val x σ | _, _ => none) = _
   rw [ev, Option.bind_some]
   show (aX_ P none σ t t2 _ _).map _ = _
   unfold aX_
   rw [he, Option.bind_some, hz, Option.bind_some, hby, Option.bind_some, hzz, Option.bind_some, if_pos c1, if_neg (by rintro (h | h | h | h); exact h (Enc.len x0); exact c2 h; exact c3 h; omega)]
   unfold appZ
   simp only
   rw [if_pos ⟨hh.1, hh.2, rfl⟩]; rfl
  ·rw [br_]
   refine k _ _ _ ⟨rfl, rfl⟩ ?_ (aQ_ hS d _ σ)
   rw [hrow, ← bH_]
   refine Heap.step (es1 := []) (es2 := [.own z (Enc.w α) (.ref σ.next 0 0 n.toNat) (.row false n.toNat (al_ (List.replicate n.toNat x0)))]) (es := es) hH (by simp) fun S hS _ _ => ?_
   refine ⟨[σ.next], ⟨[σ.next], [], rfl, ⟨rfl, (fun b e o n B h hB _ => by injection h with h; subst h; rw [dA_] at hB; injection hB with hB; subst hB; rfl), 1, ?_⟩, rfl⟩, by simp, fun b hb => by simp at hb; subst hb; exact .inr ⟨Nat.le_refl _, by simp⟩, fun b hb _ => by rw [gi_, if_neg (by omega)]⟩
   simp only [hold, dA_, Option.bind_some, cn_, hfr, Option.map_some]
   rw [if_pos (by simp only [aF_]; exact ⟨fun _ => trivial, trivial, Nat.le_refl _, trivial, by rw [bH_]; exact hlen, c2, cellsL_one _, by have := hh.1; omega⟩)]
 ·cases hc
theorem ok_ {m : Mo} {x : Operand} {t : TypeId} (hw : want ops L g = some true) (hS : Sub L s) (hx : gE (get L) x = some (.row true 0 [])) (hk : aB_ P t = 4)
  (k : ∀ s', Sub (putL L d (.int .i64 0)) s' → opsX P O ops (nxM m) l K ⟨s', σ⟩) : opsX P O ops m (⟨d, .call ⟨.builtin .cap, #[x], #[t]⟩, ty, ps, af, g⟩ :: l) K ⟨s, σ⟩ :=
 dB_ hw hS (fun kk σ' _ => by
  have ev : bh_ s [x] = some [.row true 0 []] := by simp only [bh_, aj_ hS hx, Option.bind_some, Option.map_some]
  show ((bh_ s [x]).bind fun args => match args, [t] with | [x], [t] => (capA P t x).map fun x => ARes.val x σ' | _, _ => none) = _
  rw [ev, Option.bind_some]
  show (capA P t (.row true 0 [])).map _ = _
  simp only [capA, hk, if_true]; rfl) k
theorem qV_ {α : Type} [Enc α] {z : Bool} [Hld z α] {x y : Operand} {t1 : T} {a b c : Sl α} {t t2 e by_ : Nat} {zc : List T} (hw : want ops L g = some true) (hS : Sub L s) (hH : Heap σ0 σ (.frt z (Enc.w α) t1 a.t :: es))
  (hx : gE (get L) x = some t1) (hy : gE (get L) y = some b.t) (he : ap_ P t = some e) (hz : szOf P e = some (Enc.w α)) (hby : bu_ P e = some by_) (hzz : aR_ P e = some zc)
  (hcl : (!bo_ P t2 && Nat.beq zc.length (Enc.w α) && !Nat.beq (Enc.w α) 0 && !Nat.beq by_ 0 && Nat.ble by_ 1048576) = true) (hk : aB_ P t2 = 4) (hc : appS by_ a b = some c)
  (kk : ∀ t' σ' s', ao_ t' → Heap σ0 σ' (.frt z (Enc.w α) t' c.t :: es) → Sub (putL L d t') s' → opsX P O ops .q l K ⟨s', σ'⟩) : opsX P O ops .q (⟨d, .call ⟨.builtin .append, #[x, y], #[t, t2]⟩, ty, ps, af, g⟩ :: l) K ⟨s, σ⟩ := by
 obtain ⟨S, h1, hnd, hbd⟩ := hH.head
 rcases h1 with h1 | ⟨hv, x', B, rfl, rfl, hB, d1, d2, d3, d4⟩
 ·have hH' : Heap σ0 σ (.own z (Enc.w α) t1 a.t :: es) := Heap.step (es1 := [.frt z (Enc.w α) t1 a.t]) (es2 := [.own z (Enc.w α) t1 a.t]) (es := es) hH (Nat.le_refl _) fun S' hS' hnd' hbd' => by
   obtain ⟨S1, F1, rfl, h2, hnil⟩ := hS'
   cases hnil
   rcases h2 with h2 | ⟨hv, x', B, rfl, rfl, hB, d1, d2, d3, d4⟩
   ·exact ⟨S1 ++ [], ⟨S1, [], rfl, h2, rfl⟩, hnd', fun b hb => .inl hb, fun _ _ _ => rfl⟩
   ·obtain ⟨ht, hwd, k, h3⟩ := h1
    have hv' : a.t = .row false 0 [] := hv
    rw [hv'] at h3
    rcases cj_ ht h3 with ⟨h, _⟩ | ⟨h, _⟩ | ⟨_, x2, B2, _, _, h, _, _, _, _, _, _, _, _⟩
    ·cases h
    ·cases h
    ·exfalso
     cases k with
     | zero => cases h3
     | succ k =>
      simp only [hold, hB, Option.bind_some] at h3
      rw [if_neg (fun hh => hh.2.2.2.2.2.2.2 rfl)] at h3; cases h3
  exact qK_ hw hS hH' hx hy he hz hby hzz hcl hk hc fun t' σ' s' k1 k2 k3 => kk t' σ' s' k1 k2.toFrt k3
 ·have hv : T.row a.z a.l.length (al_ a.l) = .row false 0 [] := hv
  injection hv with e1 e2 e3
  have ha : a = ⟨false, []⟩ := by
   obtain ⟨az, al⟩ := a
   simp only at e1 e2
   rw [e1, List.length_eq_zero_iff.1 e2]
  subst ha
  simp only [Bool.and_eq_true, Bool.not_eq_true'] at hcl
  obtain ⟨⟨⟨⟨c1, c2⟩, c3⟩, c4⟩, c5⟩ := hcl
  have c2 := Nat.eq_of_beq_eq_true c2; have c3 := Nat.ne_of_beq_eq_false c3; have c4 := Nat.ne_of_beq_eq_false c4; have c5 := Nat.le_of_ble_eq_true c5
  have hnews : dK_ σ (Enc.w α) b.t = some (b.l.length, al_ b.l) := by simp only [dK_, Sl.t, cellsOf, Option.bind_some, cellsL_len, if_true]
  have hsrc : d9_ P t2 b.t = true := by simp [d9_, Sl.t, T.isStr, hk]
  have ev : bh_ s [x, y] = some [.ref x' B.ep 0 0, b.t] := by simp only [bh_, aj_ hS hx, aj_ hS hy, Option.bind_some, Option.map_some]
  have hop : ∀ r, aX_ P none σ t t2 (.ref x' B.ep 0 0) b.t = some r → aOp P none ⟨s, σ⟩ ⟨d, .call ⟨.builtin .append, #[x, y], #[t, t2]⟩, ty, ps, af, g⟩ = some (ARes.val r.1 r.2) := fun r h => by
   show ((bh_ s [x, y]).bind fun args => match args, [t, t2] with | [x, y], [t, t2] => (aX_ P none σ t t2 x y).map fun (x, σ) => ARes.val x σ | _, _ => none) = _
   rw [ev, Option.bind_some]
   show (aX_ P none σ t t2 _ _).map _ = _
   rw [h]; rfl
  have happ : aX_ P none σ t t2 (.ref x' B.ep 0 0) b.t = if b.l.length = 0 then (if B.esz = Enc.w α ∧ B.low ≤ B.ep then some (.ref x' B.ep 0 0, σ) else none)
     else if 0 = 0 ∧ B.ep = B.ep ∧ B.esz = Enc.w α ∧ B.cells.length = 0 * Enc.w α ∧ (0 + b.l.length) * by_ ≤ 2 ^ 40 then
      some (.ref x' (B.ep + 1) 0 (0 + b.l.length), σ.set x' { B with cells := B.cells ++ al_ b.l, ep := B.ep + 1, ver := B.ver + 1 })
     else if 0 = 0 ∧ B.ep = B.ep ∧ B.esz = Enc.w α ∧ 0 * Enc.w α ≤ B.cells.length ∧ B.st = true ∧ (0 + b.l.length) * by_ ≤ 2 ^ 40 then
      some (.ref x' (B.ep + 2) 0 (0 + b.l.length), σ.set x' { B with cells := B.cells.take (0 * Enc.w α) ++ al_ b.l, ep := B.ep + 2, low := B.ep + 1, ver := B.ver + 2 })
     else none := by
   unfold aX_
   rw [he, Option.bind_some, hz, Option.bind_some, hby, Option.bind_some, hzz, Option.bind_some, c1, if_neg (by simp), if_neg (by omega), hnews, Option.bind_some]
   simp only
   rw [if_neg (by simp [cellsL_one, hsrc])]
   simp only [hB, Option.bind_some]
  rcases f7_ hc with ⟨hb, rfl⟩ | ⟨hb, hlim, rfl⟩
  ·have hb0 : b.l.length = 0 := by rw [hb]; rfl
   refine kI_ (az_ hS hw) (hop (.ref x' B.ep 0 0, σ) (by rw [happ, if_pos hb0, if_pos ⟨d3, d2⟩])) ?_
   rw [br_]
   exact kk _ _ _ ⟨rfl, rfl⟩ hH (aQ_ hS d _ σ)
  ·have hb0 : b.l.length ≠ 0 := fun h => hb (List.length_eq_zero_iff.1 h)
   have hlim' : (0 + b.l.length) * by_ ≤ 2 ^ 40 := by simpa using hlim
   have fin : ∀ B' : Blk, B'.cells = al_ b.l → B'.esz = B.esz → B'.low ≤ B'.ep → B'.st = true → Heap σ0 (σ.set x' B') (.frt z (Enc.w α) (.ref x' B'.ep 0 (0 + b.l.length)) (Sl.t (⟨false, [] ++ b.l⟩ : Sl α)) :: es) := fun B' q1 q2 q3 q4 => by
    refine Heap.toFrt (Heap.step (es1 := [.frt z (Enc.w α) (.ref x' B.ep 0 0) (Sl.t (⟨false, []⟩ : Sl α))]) (es2 := [.own z (Enc.w α) (.ref x' B'.ep 0 (0 + b.l.length)) (Sl.t (⟨false, [] ++ b.l⟩ : Sl α))]) (es := es) hH (by simp) fun S hS hnd hbd => ?_)
    obtain ⟨S1, F1, rfl, h2, hnil⟩ := hS
    cases hnil
    have hx1 : x' ∈ S1 := by
     rcases h2 with ⟨_, _, k, h2⟩ | ⟨_, b2, B2, h2, rfl, _⟩
     ·exact ee_ h2
     ·injection h2 with h2 _; subst h2; simp
    refine ⟨[x'], ⟨[x'], [], rfl, ⟨rfl, (fun b e o n B2 h hB2 _ => by injection h with h; subst h; rw [bY_] at hB2; injection hB2 with hB2; subst hB2; rw [q2, d3]), 1, ?_⟩, rfl⟩, by simp, fun b hb => .inl ?_, fun y hy hm => ?_⟩
    ·simp only [hold, bY_, Option.bind_some, q1, Hld.list, Option.map_some, Sl.t, List.nil_append]
     rw [Nat.zero_add, if_pos ⟨fun _ => q4, trivial, q3, trivial, by rw [cellsL_len, q2, d3], by rw [q2, d3]; exact d4, cellsL_one _, hb0⟩]
    ·simp at hb; subst hb; simpa using hx1
    ·rw [bV_, if_neg (fun e => hm (by simp [e, hx1]))]
   by_cases hcl : B.cells.length = 0 * Enc.w α
   ·have hnil : B.cells = [] := List.length_eq_zero_iff.1 (by simpa using hcl)
    refine kI_ (az_ hS hw) (hop (.ref x' (B.ep + 1) 0 (0 + b.l.length), σ.set x' { B with cells := B.cells ++ al_ b.l, ep := B.ep + 1, ver := B.ver + 1 }) (by rw [happ, if_neg hb0, if_pos ⟨rfl, rfl, d3, hcl, hlim'⟩])) ?_
    rw [br_]
    exact kk _ _ _ ⟨rfl, rfl⟩ (fin _ (by simp [hnil]) rfl (Nat.le_succ_of_le d2) d1) (aQ_ hS d _ σ)
   ·refine kI_ (az_ hS hw) (hop (.ref x' (B.ep + 2) 0 (0 + b.l.length), σ.set x' { B with cells := B.cells.take (0 * Enc.w α) ++ al_ b.l, ep := B.ep + 2, low := B.ep + 1, ver := B.ver + 2 }) (by rw [happ, if_neg hb0, if_neg fun h => hcl h.2.2.2.1, if_pos ⟨rfl, rfl, d3, by simp, d1, hlim'⟩])) ?_
    rw [br_]
    exact kk _ _ _ ⟨rfl, rfl⟩ (fin _ (by simp) rfl (by simp) d1) (aQ_ hS d _ σ)
end
section
variable {P : Program} {md : Nat → Md} {X : Ext} {ops : Array Oper} {m : Mo} {l : List Oper} {K : Fr → Prop} {s : Nat → T} {σ σ0 : St} {L : List (Nat × T)} {es ents : List Ent} {f : Nat}
variable {d : Option Nat} {ty : TypeId} {ps : String} {af : Array Edge} {g : Option (Nat × Bool)}
theorem mS_ (hX : XOk X) (hm : m.chg = true) {o : Oper} {args : List T} {r : T} {σ' : St} (hwr : ∀ x, m.wr x ∨ σ'.blk x = σ.blk x) (hcl : isCall o.op = true) (hw : wantedA ops o s = true) (h : ∀ k σ, aOp P k ⟨s, σ⟩ o = some (.call f args)) (hc : run P md X f args σ = some (r, σ'))
  (kk : opsX P (run P md X) ops (nxM m) l K (Fr.put ⟨s, σ⟩ o.dst r σ')) : opsX P (run P md X) ops m (o :: l) K ⟨s, σ⟩ := by
 cases m with
 | q => show opQ P (run P md X) ops none o (opsQ P (run P md X) ops l K) ⟨s, σ⟩; unfold opQ; simp only [hw, cond_true, h]; exact ⟨r, σ', hc, kk⟩
 | d b i => cases hm
 | c b i W σs cm =>
  intro hA hR
  have free : ∀ x, σ.blk x = none → x < σ.next → σ'.blk x = none ∧ x < σ'.next := fun x h1 h2 => (oj_ hX (B := aF_ [] 0) hc h1 h2).2
  have hR0 : b + i + (l.length + 1) ≤ σ.next := hR.1
  have hR1 : b + (i + 1) + l.length ≤ σ.next := hR.nxt.1
  have h0 := free (b + i) (by have := hR.2 0 (by simp); simpa using this) (by omega)
  have hA' : ep_ b W σs σ' := ⟨by omega, fun x hx hx' => by
   rcases hwr x with (h | ⟨c, _, h⟩) | h
   ·omega
   ·exact absurd h (hx' c)
   ·rw [h, hA.2 x hx hx']⟩
  have hR' : Room b (i + 1) l.length σ' := ⟨by
   by_cases hl : l.length = 0
   ·omega
   ·have := (free (b + (i + 1) + (l.length - 1)) (hR.nxt.2 _ (by omega)) (by omega)).2
    omega, fun j hj => (free _ (hR.nxt.2 j hj) (by omega)).1⟩
  have hp : (Fr.put ⟨s, σ⟩ o.dst r σ').σ = σ' := by cases o.dst <;> rfl
  have kk := kk (by rw [hp]; exact hA') (by rw [hp]; exact hR')
  have hs : cK_ P (run P md X) ops (b + i) o s σ = some (r, σ') := by simp only [cK_, hw, if_true, h, Option.bind_some, hc]
  have hm' : (!cm.vw i) = true := hm
  unfold opsC
  simp only [iE_ hcl, hm', hw, Bool.and_self]
  refine ⟨r, σ', hs, fun x hx hwf => ?_, hA', hR', kk⟩
  rcases hwr x with (h | ⟨c, h1, h2⟩) | h
  ·omega
  ·exact absurd h2 (hwf c h1)
  ·exact h
def EB : Ent → Nat → Prop
 | .box b _, x => x = b
 | .own _ _ t _, x => BT t x
 | .flt _ t _, x => BT t x
 | .keep F _, x => x ∈ F
 | .frt .., _ => False
theorem or_ {σ : St} : ∀ {es : List Ent} {F : List Nat}, cb_ σ es F → ∀ {e : Ent}, e ∈ es → ∀ {x : Nat}, EB e x → x ∈ F
 | e0 :: es, F, h, e, he, x, hx => by
  obtain ⟨S, F', rfl, h1, h2⟩ := h
  rcases List.mem_cons.1 he with rfl | he
  ·refine List.mem_append_left _ ?_
   cases e with
   | box b c => obtain ⟨rfl, _⟩ := h1; rw [show x = b from hx]; simp
   | own z w t v => obtain ⟨e, o, n, rfl⟩ := hx; obtain ⟨_, _, k, h6⟩ := h1; exact ee_ h6
   | flt w t v =>
    obtain ⟨e, o, n, rfl⟩ := hx
    rcases h1 with ⟨h1, _⟩ | ⟨h1, _⟩ | ⟨b, B, n', h1, _, rfl, _⟩
    ·cases h1
    ·cases h1
    ·injection h1 with h1; rw [h1]; simp
   | keep F2 σk => obtain ⟨rfl, _⟩ := h1; exact hx
   | frt => exact hx.elim
  ·exact List.mem_append_right _ (or_ h2 he hx)
 | [], _, _, _, he, _, _ => by cases he
theorem Heap.wrap' {σ0 σ : St} {ents E : List Ent} (h : Heap σ0 σ (ents ++ E)) : ∃ F, Heap σ0 σ (ents ++ [.keep F σ]) ∧ (∀ σ' ents', Heap σ0 σ' (ents' ++ [.keep F σ]) → Heap σ0 σ' (ents' ++ E)) ∧ ∀ e ∈ E, ∀ x, EB e x → x ∈ F := by
 obtain ⟨F, h1, h2, h3⟩ := h.ex
 obtain ⟨F1, F2, rfl, h4, h5⟩ := h1.split
 refine ⟨F2, ⟨h.grow, F1 ++ F2, h4.join ⟨F2, [], by simp, ⟨rfl, fun b hb => ⟨rfl, h5.some b hb⟩⟩, rfl⟩, h2, h3⟩, fun σ' ents' k => ?_, fun e he x hx => or_ h5 he hx⟩
 obtain ⟨G, k1, k2, k3⟩ := k.ex
 obtain ⟨G1, G2, rfl, k4, k5⟩ := k1.split
 obtain ⟨S, F', rfl, ⟨rfl, k6⟩, k7⟩ := k5
 cases k7
 simp only [List.append_nil] at k2 k3
 exact ⟨k.grow, G1 ++ S, k4.join (h5.same fun b hb => (k6 b hb).1), k2, k3⟩
def Stay (R : Nat → Prop) (es : List Ent) : Prop := ∀ x, R x → ∃ e ∈ es, EB e x
theorem Stay.nil {es : List Ent} : Stay RN es := fun x h => h.elim
theorem Stay.box {R : Nat → Prop} {es : List Ent} {b : Nat} {c : List T} (h : Ent.box b c ∈ es) (k : Stay R es) : Stay (RB b R) es := fun y hy => by
 rcases hy with rfl | hy
 ·exact ⟨_, h, rfl⟩
 ·exact k y hy
theorem Stay.own {R : Nat → Prop} {es : List Ent} {z : Bool} {w : Nat} {t v : T} (h : Ent.own z w t v ∈ es) (k : Stay R es) : Stay (RT t R) es := fun y hy => by
 rcases hy with hy | hy
 ·exact ⟨_, h, hy⟩
 ·exact k y hy
theorem lo_ (hX : XOk X) (hm : m.chg = true) (R : Nat → Prop) (hR : Stay R es) (hwr : ∀ x, ¬ R x → m.wr x) {fo : Operand} {as : Array Operand} {tys : Array TypeId} {a b xs : List T} {n : Nat} {tree : List T → T} {ents' : List T → List Ent} (hw : want ops L g = some true) (hS : Sub L s) (hf : gE (get L) fo = some (.fn f a b)) (ha : gEs (get L) as.toList = some xs)
  (hH : Heap σ0 σ (ents ++ es)) (hr : RawS P md X f (a ++ xs ++ b) n tree ents ents')
  (k : ∀ hs σ' s', hs.length = n → Heap σ0 σ' (ents' hs ++ es) → Sub (putL L d (tree hs)) s' → opsX P (run P md X) ops (nxM m) l K ⟨s', σ'⟩) : opsX P (run P md X) ops m (⟨d, .call ⟨.value fo, as, tys⟩, ty, ps, af, g⟩ :: l) K ⟨s, σ⟩ := by
 obtain ⟨F, hw1, hw2, hw3⟩ := Heap.wrap' hH
 obtain ⟨hs, σ', h1, h2, h3k⟩ := hr σ0 σ _ hw1
 have h3 := hw2 _ _ h3k
 have hst : ∀ x, R x → σ'.blk x = σ.blk x := fun x hx => by
  obtain ⟨e, he, hc⟩ := hR x hx
  have hF : x ∈ F := hw3 e he x hc
  obtain ⟨G', k1, _⟩ := h3k.ex
  obtain ⟨G3, G4, rfl, k3, k4⟩ := k1.split
  obtain ⟨S, F', rfl, ⟨rfl, k6⟩, k7⟩ := k4
  exact (k6 x hF).1
 refine mS_ hX hm (fun x => by by_cases hx : R x; exact .inr (hst x hx); exact .inl (hwr x hx)) (f := f) (args := a ++ xs ++ b) rfl (az_ hS hw) (fun kk σ2 => by rw [hN_, bT_ hS ha, Option.bind_some, aj_ hS hf]; rfl) h2 ?_
 rw [br_]
 exact k _ _ _ h1 h3 (aQ_ hS d _ σ)
theorem rK_ {HF : (Nat → T) → St → Prop} (hX : XOk X) (hm : m.chg = true) (R : Nat → Prop) (hst : ∀ s σ', HF s σ' → ∀ x, R x → σ'.blk x = σ.blk x) (hwr : ∀ x, ¬ R x → m.wr x) {fo : Operand} {as : Array Operand} {tys : Array TypeId} {a b xs : List T} {c : Code} {n0 : Nat} {rs : List ResultVar} (args : List T) (hw : want ops L g = some true) (hS : Sub L s) (hf : gE (get L) fo = some (.fn f a b)) (ha : gEs (get L) as.toList = some xs)
  (hab : a ++ xs ++ b = args) (hv : md f = .raw) (hXf : X f = none) (hok : Ok P f c n0 rs) (hlen : Nat.ble args.length n0 = true)
  (h : ∀ s1, Sub (nums 0 args) s1 → codeQ P (run P md X) c (endI P rs fun v σ' => ∀ s', Sub (putL L d v) s' → HF s' σ') ⟨s1, σ⟩)
  (k : ∀ s' σ', HF s' σ' → opsX P (run P md X) ops (nxM m) l K ⟨s', σ'⟩) : opsX P (run P md X) ops m (⟨d, .call ⟨.value fo, as, tys⟩, ty, ps, af, g⟩ :: l) K ⟨s, σ⟩ := by
 subst hab
 obtain ⟨fn, k1, k2, k3, k4, k5, k6⟩ := hok
 obtain ⟨x, fr, m1, m2⟩ := codeQ_sound (h _ (eH_ _))
 have hx : (x = .normal ∨ x = .ret) ∧ ∃ l1, resL P fr rs = some l1 ∧ ∀ s', Sub (putL L d (tupOf l1)) s' → HF s' fr.σ := by
  cases x with
  | normal => exact ⟨.inl rfl, m2⟩
  | ret => exact ⟨.inr rfl, m2⟩
  | exit i => exact m2.elim
 obtain ⟨hx, l1, q1, q2⟩ := hx
 have hHF := q2 _ (aQ_ hS d _ σ)
 refine mS_ hX hm (fun x => by by_cases hx : R x; exact .inr (hst _ _ hHF x hx); exact .inl (hwr x hx)) (f := f) (args := a ++ xs ++ b) (r := tupOf l1) (σ' := fr.σ) rfl (az_ hS hw) (fun kk σ2 => by rw [hN_, bT_ hS ha, Option.bind_some, aj_ hS hf]; rfl)
  (kw_ (P := P) (vm := md) (X := X) (σ := σ) hv hXf k1 k2 k3 k4 (by rw [k5]; exact Nat.le_of_ble_eq_true hlen) m1 hx (by rw [resA, k6, q1]; rfl)) ?_
 rw [br_]
 exact k _ _ (q2 _ (aQ_ hS d _ σ))
theorem hR_.mark {S : List Nat} : ∀ {bs : List Nat} {cs : List (List T)}, hR_ σ bs cs → hR_ (σ.mark S) bs cs
 | [], [], _ => trivial
 | b :: bs, c :: cs, ⟨⟨h1, B, h2, h3⟩, h4⟩ => ⟨⟨h1, by
   have e : (σ.mark S).blk b = some (if b ∈ S then { B with st := false } else B) := by simp [St.mark, h2]
   refine ⟨_, e, ?_⟩
   split <;> exact h3⟩, h4.mark⟩
 | [], _ :: _, h => h.elim
 | _ :: _, [], h => h.elim
end
abbrev nt (α : Type) [Enc α] : T := Sl.t (⟨true, []⟩ : Sl α)
section
variable {z : Bool} {ts vs : List T} {es : List Ent}
theorem HLi {k : IntKind} {n : Int} (r : HL z ts vs es) : HL z (.int k n :: ts) (.int k n :: vs) es := HL.leaf (fun σ d => k4_ _ σ d _ _) r
theorem HLb {n : Bool} (r : HL z ts vs es) : HL z (.bool n :: ts) (.bool n :: vs) es := HL.leaf (fun σ d => mV_ _ σ d _) r
theorem HLs {n : ByteArray} (r : HL z ts vs es) : HL z (.str n :: ts) (.str n :: vs) es := HL.leaf (fun σ d => nA_ _ σ d _) r
theorem HLn {α : Type} [Enc α] (r : HL z ts vs es) : HL z (Sl.t (⟨true, []⟩ : Sl α) :: ts) (Sl.t (⟨true, []⟩ : Sl α) :: vs) es := HL.leaf (fun σ d => mm_ _ σ d) r
theorem HLp {α : Type} [Enc α] {a : Sl α} (r : HL false ts vs es) : HL false (a.t :: ts) (a.t :: vs) es := HL.leaf (fun σ d => mE_ σ d _) r
end
abbrev i4 (n : Int) : T := .int .i64 n
section
variable {P : Program} {O : aH_} {ops : Array Oper} {m : Mo} {l : List Oper} {K : Fr → Prop} {s : Nat → T} {σ σ0 : St} {L : List (Nat × T)} {es : List Ent}
variable {d : Option Nat} {ty : TypeId} {ps : String} {af : Array Edge} {g : Option (Nat × Bool)}
theorem qs (n : Nat) (L' : List (Nat × T)) (hS : Sub L s) (k : ∀ s', Sub L' s' → opsX P O ops (nxN n m) (l.drop n) K ⟨s', σ⟩) (h : ((seg P ops n l L).map fun M => L'.map fun p => get M p.1) = some (L'.map fun p => some p.2) := by kernel_rfl) : opsX P O ops m l K ⟨s, σ⟩ := sV_ n L' hS h k
end
end Go.Am
end
section
set_option linter.unusedVariables false
set_option linter.unusedSimpArgs false
namespace Go.Am
section
variable {P : Program} {O : aH_} {ops : Array Oper} {m : Mo} {l : List Oper} {K : Fr → Prop} {s : Nat → T} {σ σ0 : St} {L : List (Nat × T)} {es ents : List Ent}
variable {d : Option Nat} {ty : TypeId} {ps : String} {af : Array Edge} {g : Option (Nat × Bool)}
theorem Heap.fltOne {w : Nat} {t v : T} (h : Heap σ0 σ (.flt w t v :: es)) : ao_ t := by
 obtain ⟨S, h1, _⟩ := h.head
 rcases h1 with ⟨rfl, _⟩ | ⟨rfl, _⟩ | ⟨b, B, n, rfl, _⟩ <;> exact ⟨rfl, rfl⟩
theorem dH_ {α : Type} [Enc α] {t1 : T} {a : Sl α} {w : Nat} (h : Heap σ0 σ (.flt w t1 a.t :: es)) :
  (t1 = .row true 0 [] ∧ a = ⟨true, []⟩) ∨ (t1 = .emp ∧ a = ⟨false, []⟩) ∨ ∃ b B, t1 = .ref b B.ep 0 a.l.length ∧ a.z = false ∧ σ.blk b = some B ∧ B.st = true ∧ B.low ≤ B.ep ∧ B.esz = w ∧ w ≠ 0 ∧ a.l.length * w ≤ B.cells.length ∧ B.cells.take (a.l.length * w) = al_ a.l := by
 obtain ⟨S, h1, _⟩ := h.head
 obtain ⟨z, l⟩ := a
 rcases h1 with ⟨rfl, hv, _⟩ | ⟨rfl, hv, _⟩ | ⟨b, B, n, rfl, hv, _, h3, h4, h5, h6, h7, h8⟩
 ·have hv : T.row z l.length (al_ l) = .row true 0 [] := hv
  injection hv with e1 e2 e3
  exact .inl ⟨rfl, by rw [e1, List.length_eq_zero_iff.1 e2]⟩
 ·have hv : T.row z l.length (al_ l) = .row false 0 [] := hv
  injection hv with e1 e2 e3
  exact .inr (.inl ⟨rfl, by rw [e1, List.length_eq_zero_iff.1 e2]⟩)
 ·have hv : T.row z l.length (al_ l) = .row false n (B.cells.take (n * w)) := hv
  injection hv with e1 e2 e3
  subst e2
  exact .inr (.inr ⟨b, B, rfl, e1, h3, h4, h5, h6, h7, h8, e3.symm⟩)
theorem mY_ {α : Type} [Enc α] {σ' : St} {b n : Nat} {B : Blk} {c : Sl α} (hz : c.z = false) (hn : n = c.l.length) (hB : σ'.blk b = some B) (h1 : B.st = true) (h2 : B.low ≤ B.ep) (h3 : B.esz = Enc.w α) (h4 : Enc.w α ≠ 0) (h5 : B.cells.take (n * Enc.w α) = al_ c.l) : kB_ σ' (.flt (Enc.w α) (.ref b B.ep 0 n) c.t) [b] := by
 refine .inr (.inr ⟨b, B, n, rfl, ?_, rfl, hB, h1, h2, h3, h4, ?_⟩)
 ·show T.row c.z c.l.length (al_ c.l) = _
  rw [hz, ← hn, h5]
 ·have := congrArg List.length h5
  rw [cellsL_len, List.length_take, ← hn] at this; omega
theorem Heap.toFlt0 {z : Bool} {w : Nat} {t : T} (w2 : Nat) (h : Heap σ0 σ (.own z w t (.row false 0 []) :: es)) : Heap σ0 σ (.flt w2 t (.row false 0 []) :: es) :=
 Heap.step (es1 := [.own z w t (.row false 0 [])]) (es2 := [.flt w2 t (.row false 0 [])]) (es := es) h (Nat.le_refl _) fun S hS hnd hbd => by
  obtain ⟨S1, F1, rfl, ⟨h1, _, k, h2⟩, hnil⟩ := hS
  cases hnil
  rcases cj_ h1 h2 with ⟨rfl, hz, _⟩ | ⟨rfl, hz, _, _, rfl⟩ | ⟨hz, x, B, S', k', rfl, hB, _⟩
  ·cases hz
  ·exact ⟨[], ⟨[], [], rfl, .inr (.inl ⟨rfl, rfl, rfl⟩), rfl⟩, by simp, by simp, fun _ _ _ => rfl⟩
  ·exfalso
   cases k with
   | zero => cases h2
   | succ k =>
    simp only [hold, hB, Option.bind_some] at h2
    rw [if_neg (fun hh => hh.2.2.2.2.2.2.2 rfl)] at h2; cases h2
theorem Heap.toFltN {z : Bool} {w : Nat} {t : T} (w2 : Nat) (h : Heap σ0 σ (.own z w t (.row true 0 []) :: es)) : Heap σ0 σ (.flt w2 t (.row true 0 []) :: es) :=
 Heap.step (es1 := [.own z w t (.row true 0 [])]) (es2 := [.flt w2 t (.row true 0 [])]) (es := es) h (Nat.le_refl _) fun S hS hnd hbd => by
  obtain ⟨S1, F1, rfl, ⟨h1, _, k, h2⟩, hnil⟩ := hS
  cases hnil
  rcases cj_ h1 h2 with ⟨rfl, hz, _, _, rfl⟩ | ⟨rfl, hz, _⟩ | ⟨hz, x, B, S', k', rfl, hB, _⟩
  ·exact ⟨[], ⟨[], [], rfl, .inl ⟨rfl, rfl, rfl⟩, rfl⟩, by simp, by simp, fun _ _ _ => rfl⟩
  ·cases hz
  ·cases hz
theorem rr_ (hm : m.chg = true) (hmb : m.base σ0) {t e len sz : Nat} {parts : Array (Nat × Operand)} {vs zc cs : List T} {v : T} (hw : want ops L g = some true) (hS : Sub L s) (hH : Heap σ0 σ es) (hg : gPs (get L) parts.toList = some (enumV 0 vs))
  (he : ap_ P t = some e) (hz : szOf P e = some sz) (hzz : aR_ P e = some zc) (hl : (Nat.beq zc.length sz && Nat.beq vs.length len && Nat.ble (len * sz) 16777216 && !Nat.beq sz 0 && !Nat.beq len 0) = true) (hv : allV sz vs)
  (hc : vs.flatMap T.cells = cs) (hr : T.row false len cs = v)
  (kk : ∀ t' σ' s', ao_ t' → Heap σ0 σ' (.flt sz t' v :: es) → Sub (putL L d t') s' → opsX P O ops (nxM m) l K ⟨s', σ'⟩) : opsX P O ops m (⟨d, .buildSlice t len parts, ty, ps, af, g⟩ :: l) K ⟨s, σ⟩ := by
 simp only [Bool.and_eq_true, Bool.not_eq_true'] at hl
 obtain ⟨⟨⟨⟨l1, l2⟩, l3⟩, l4⟩, l5⟩ := hl
 have l1 := Nat.eq_of_beq_eq_true l1; have l2 := Nat.eq_of_beq_eq_true l2; have l3 := Nat.le_of_ble_eq_true l3; have l4 := Nat.ne_of_beq_eq_false l4; have l5 := Nat.ne_of_beq_eq_false l5
 subst hr
 have hlen : cs.length = len * sz := by rw [← hc, ← l2]; exact jd_ vs hv
 refine ge_ hm rfl (az_ hS hw) fun k hk hi => ⟨T.ref (σ.nid k) 0 0 len, σ.pushK k (aF_ cs sz), ?_, Cg.push hk, ?_⟩
 ·rw [fj_, he, Option.bind_some, hz, Option.bind_some, hzz, Option.bind_some, fs_ hS hg, Option.bind_some, hV_, if_pos ⟨l1, l3, l4, hk⟩]
  have := hu_ zc l1 vs [] 0 (by simp) hv
  simp only [List.nil_append, l2, hc] at this
  rw [this, if_neg l5]; rfl
 ·rw [br_]
  refine kk _ _ _ ⟨rfl, rfl⟩ ?_ (aQ_ hS d _ σ)
  have hbk := Mo.inb_base hi hmb
  have h0 : σ0.next ≤ σ.nid k := by
   cases k with
   | none => exact hH.grow.nx
   | some i => exact hbk i rfl
  have hf := fJ_ hk
  refine Heap.stepN (es1 := []) (es2 := [.flt sz (.ref (σ.nid k) 0 0 len) (.row false len cs)]) (es := es) hH dv_ (fun b hb' => by rw [a7_, if_neg (by omega)]) fun S hS hn hb => ?_
  have hself : (σ.pushK k (aF_ cs sz)).blk (σ.nid k) = some (aF_ cs sz) := by rw [a7_, if_pos rfl]
  refine ⟨[σ.nid k], ⟨[σ.nid k], [], rfl, .inr (.inr ⟨σ.nid k, aF_ cs sz, len, rfl, ?_, rfl, hself, rfl, Nat.le_refl _, rfl, l4, ?_⟩), rfl⟩, by simp, fun b hb' => ?_, fun b hb' hs' _ => dQ_ hk hs' hb'⟩
  ·rw [cn_, List.take_of_length_le (by omega)]
  ·rw [cn_, hlen]; exact Nat.le_refl _
  ·simp at hb'; subst hb'
   exact .inr ⟨h0, hD_ hk, hf.imp id fun h => h.1⟩
theorem da_ {α : Type} [Enc α] {t2 : TypeId} {ty1 : T} {b : Sl α} (hH : Heap σ0 σ (.flt (Enc.w α) ty1 b.t :: es)) (hk : aB_ P t2 = 4) : dK_ σ (Enc.w α) ty1 = some (b.l.length, al_ b.l) ∧ d9_ P t2 ty1 = true := by
 rcases dH_ hH with ⟨rfl, rfl⟩ | ⟨rfl, rfl⟩ | ⟨x, B, rfl, hz, hB, c1, c2, c3, c4, c5, c6⟩
 ·exact ⟨by simp [dK_, cellsOf, al_], by simp [d9_, T.isStr, hk]⟩
 ·exact ⟨by simp [dK_, cellsOf, al_], by simp [d9_, T.isStr, hk]⟩
 ·refine ⟨?_, by simp [d9_, T.isStr, hk]⟩
  simp only [dK_, cellsOf, hB, Option.bind_some, if_pos c2, List.drop_zero, c3, c6, cellsL_len, if_true]
theorem pa_ {α : Type} [Enc α] {t1 ty1 : T} {a b c : Sl α} {t t2 e by_ : Nat} {zc : List T} {kx : Option Nat} (hkx : σ.okK kx = true) (hbk : ∀ i, kx = some i → σ0.next ≤ i) (hH : Heap σ0 σ (.flt (Enc.w α) t1 a.t :: es))
  (he : ap_ P t = some e) (hz : szOf P e = some (Enc.w α)) (hby : bu_ P e = some by_) (hzz : aR_ P e = some zc)
  (hcl : (!bo_ P t2 && Nat.beq zc.length (Enc.w α) && !Nat.beq (Enc.w α) 0 && !Nat.beq by_ 0 && Nat.ble by_ 1048576) = true) (hnews : dK_ σ (Enc.w α) ty1 = some (b.l.length, al_ b.l)) (hsrc : d9_ P t2 ty1 = true) (hc : appS by_ a b = some c) :
  ∃ t' σ', aX_ P kx σ t t2 t1 ty1 = some (t', σ') ∧ ao_ t' ∧ Heap σ0 σ' (.flt (Enc.w α) t' c.t :: es) ∧ σ.next ≤ σ'.next ∧ ∀ x, x < σ.next → kx ≠ some x → σ'.blk x = σ.blk x ∨ ((∃ e o n, t1 = .ref x e o n) ∧ (σ.blk x).isSome = true) := by
 simp only [Bool.and_eq_true, Bool.not_eq_true'] at hcl
 obtain ⟨⟨⟨⟨c1, c2⟩, c3⟩, c4⟩, c5⟩ := hcl
 have c2 := Nat.eq_of_beq_eq_true c2; have c3 := Nat.ne_of_beq_eq_false c3; have c4 := Nat.ne_of_beq_eq_false c4; have c5 := Nat.le_of_ble_eq_true c5
 have happ : aX_ P kx σ t t2 t1 ty1 = match t1 with
   | .row true 0 [] => if b.l.length = 0 then some (t1, σ) else if b.l.length * by_ ≤ 2 ^ 40 ∧ σ.okK kx = true then some (.ref (σ.nid kx) 0 0 b.l.length, σ.pushK kx (aF_ (al_ b.l) (Enc.w α))) else none
   | .emp => if b.l.length = 0 then some (t1, σ) else if b.l.length * by_ ≤ 2 ^ 40 ∧ σ.okK kx = true then some (.ref (σ.nid kx) 0 0 b.l.length, σ.pushK kx (aF_ (al_ b.l) (Enc.w α))) else none
   | .row false n cs => if b.l.length = 0 then some (t1, σ) else none
   | .ref x ep off n => (σ.blk x).bind fun B =>
     if b.l.length = 0 then (if B.esz = Enc.w α ∧ B.low ≤ ep then some (t1, σ) else none)
     else if off = 0 ∧ ep = B.ep ∧ B.esz = Enc.w α ∧ B.cells.length = n * Enc.w α ∧ (n + b.l.length) * by_ ≤ 2 ^ 40 then
      some (.ref x (ep + 1) 0 (n + b.l.length), σ.set x { B with cells := B.cells ++ al_ b.l, ep := ep + 1, ver := B.ver + 1 })
     else if off = 0 ∧ ep = B.ep ∧ B.esz = Enc.w α ∧ n * Enc.w α ≤ B.cells.length ∧ B.st = true ∧ (n + b.l.length) * by_ ≤ 2 ^ 40 then
      some (.ref x (ep + 2) 0 (n + b.l.length), σ.set x { B with cells := B.cells.take (n * Enc.w α) ++ al_ b.l, ep := ep + 2, low := ep + 1, ver := B.ver + 2 })
     else none
   | _ => none := by
  unfold aX_
  rw [he, Option.bind_some, hz, Option.bind_some, hby, Option.bind_some, hzz, Option.bind_some, c1, if_neg (by simp), if_neg (by omega), hnews, Option.bind_some]
  simp only
  rw [if_neg (by simp [cellsL_one, hsrc])]
  cases t1 with
  | row z n cs => cases z <;> cases n <;> cases cs <;> rfl
  | _ => rfl
 have hnil : b.l = [] → c = a := fun h => by unfold appS at hc; rw [h] at hc; injection hc with hc; exact hc.symm
 have hone := hH.fltOne
 have fresh : b.l ≠ [] → a.l = [] → b.l.length * by_ ≤ 2 ^ 40 ∧ ∃ t' σ', some (T.ref (σ.nid kx) 0 0 b.l.length, σ.pushK kx (aF_ (al_ b.l) (Enc.w α))) = some (t', σ') ∧ ao_ t' ∧ Heap σ0 σ' (.flt (Enc.w α) t' c.t :: es) ∧ σ.next ≤ σ'.next ∧ ∀ x, x < σ.next → kx ≠ some x → σ'.blk x = σ.blk x ∨ ((∃ e o n, t1 = .ref x e o n) ∧ (σ.blk x).isSome = true) := fun hb ha => by
  rcases f7_ hc with ⟨h, _⟩ | ⟨_, hlim, rfl⟩
  ·exact absurd h hb
  have h0 : σ0.next ≤ σ.nid kx := by
   cases kx with
   | none => exact hH.grow.nx
   | some i => exact hbk i rfl
  have hf := fJ_ hkx
  have hcg : Cg .q kx σ (σ.pushK kx (aF_ (al_ b.l) (Enc.w α))) := Cg.push hkx
  refine ⟨by rw [ha] at hlim; simpa using hlim, _, _, rfl, ⟨rfl, rfl⟩, ?_, hcg.1, fun x hx hne => ?_⟩
  ·refine Heap.stepN (es1 := [.flt (Enc.w α) t1 a.t]) (es2 := [.flt (Enc.w α) (.ref (σ.nid kx) 0 0 b.l.length) (Sl.t ⟨false, a.l ++ b.l⟩)]) (es := es) hH dv_ (fun b hb' => by rw [a7_, if_neg (by omega)]) fun S hS hn hb => ?_
   have hself : (σ.pushK kx (aF_ (al_ b.l) (Enc.w α))).blk (σ.nid kx) = some (aF_ (al_ b.l) (Enc.w α)) := by rw [a7_, if_pos rfl]
   refine ⟨[σ.nid kx], ⟨[σ.nid kx], [], rfl, mY_ rfl (by simp [ha]) hself rfl (Nat.le_refl _) rfl c3 ?_, rfl⟩, by simp, fun b hb' => ?_, fun b hb' hs' _ => dQ_ hkx hs' hb'⟩
   ·rw [cn_, ha, List.nil_append, List.take_of_length_le (by rw [cellsL_len]; exact Nat.le_refl _)]
   ·simp at hb'; subst hb'
    exact .inr ⟨h0, hD_ hkx, hf.imp id fun h => h.1⟩
  ·rcases hcg.2 x hx hne with h | h
   ·exact .inl h
   ·left; rw [a7_, if_neg]
    rintro rfl
    cases kx with
    | none => simp [St.nid] at hx
    | some i => exact hne rfl
 rcases dH_ hH with ⟨rfl, rfl⟩ | ⟨rfl, rfl⟩ | ⟨x, B, rfl, hz, hB, d1, d2, d3, d4, d5, d6⟩
 ·rw [happ]
  by_cases hb : b.l = []
  ·rw [hnil hb, hb]; exact ⟨_, _, rfl, hone, hH, Nat.le_refl _, fun _ _ _ => .inl rfl⟩
  ·obtain ⟨f1, f2⟩ := fresh hb rfl
   show ∃ t' σ', (if b.l.length = 0 then _ else _) = _ ∧ _
   rw [if_neg (fun h => hb (List.length_eq_zero_iff.1 h)), if_pos ⟨f1, hkx⟩]; exact f2
 ·rw [happ]
  by_cases hb : b.l = []
  ·rw [hnil hb, hb]; exact ⟨_, _, rfl, hone, hH, Nat.le_refl _, fun _ _ _ => .inl rfl⟩
  ·obtain ⟨f1, f2⟩ := fresh hb rfl
   show ∃ t' σ', (if b.l.length = 0 then _ else _) = _ ∧ _
   rw [if_neg (fun h => hb (List.length_eq_zero_iff.1 h)), if_pos ⟨f1, hkx⟩]; exact f2
 ·rw [happ]
  simp only [hB, Option.bind_some]
  by_cases hb : b.l = []
  ·rw [hnil hb, hb]
   rw [if_pos List.length_nil, if_pos ⟨d3, d2⟩]
   exact ⟨_, _, rfl, hone, hH, Nat.le_refl _, fun _ _ _ => .inl rfl⟩
  ·have hb0 : b.l.length ≠ 0 := fun h => hb (List.length_eq_zero_iff.1 h)
   rcases f7_ hc with ⟨h, _⟩ | ⟨_, hlim, rfl⟩
   ·exact absurd h hb
   rw [if_neg hb0]
   have fin : ∀ B' : Blk, B'.cells = al_ a.l ++ al_ b.l → B'.esz = B.esz → B'.low ≤ B'.ep → B'.st = true → Heap σ0 (σ.set x B') (.flt (Enc.w α) (.ref x B'.ep 0 (a.l.length + b.l.length)) (Sl.t (⟨false, a.l ++ b.l⟩ : Sl α)) :: es) := fun B' q1 q2 q3 q4 => by
    refine Heap.step (es1 := [.flt (Enc.w α) (.ref x B.ep 0 a.l.length) a.t]) (es2 := [.flt (Enc.w α) (.ref x B'.ep 0 (a.l.length + b.l.length)) (Sl.t (⟨false, a.l ++ b.l⟩ : Sl α))]) (es := es) hH (by simp) fun S hS hnd hbd => ?_
    obtain ⟨S1, F1, rfl, h2, hnil⟩ := hS
    cases hnil
    have hx1 : S1 = [x] := by
     rcases h2 with ⟨h, _⟩ | ⟨h, _⟩ | ⟨b2, B2, n2, h2, _, rfl, _⟩
     ·cases h
     ·cases h
     ·injection h2 with h2 _; rw [h2]
    subst hx1
    refine ⟨[x], ⟨[x], [], rfl, mY_ rfl (by simp) (by rw [bY_]) q4 q3 (by rw [q2, d3]) c3 ?_, rfl⟩, by simp, fun b hb => .inl (by simpa using hb), fun y hy hm => by rw [bV_, if_neg (fun e => hm (by simp [e]))]⟩
    rw [q1, ← cellsL_append, List.take_of_length_le (by rw [cellsL_len, List.length_append]; exact Nat.le_refl _)]
   have hch : ∀ B' : Blk, ∀ y, y < σ.next → kx ≠ some y → (σ.set x B').blk y = σ.blk y ∨ ((∃ e o n, T.ref x B.ep 0 a.l.length = .ref y e o n) ∧ (σ.blk y).isSome = true) := fun B' y _ _ => by
    rw [bV_]; split
    ·rename_i e; subst e; exact .inr ⟨⟨_, _, _, rfl⟩, by rw [hB]; rfl⟩
    ·exact .inl rfl
   by_cases hcl : B.cells.length = a.l.length * Enc.w α
   ·rw [if_pos ⟨trivial, trivial, d3, hcl, hlim⟩]
    have hcs : B.cells = al_ a.l := by rw [← d6, List.take_of_length_le (by omega)]
    exact ⟨_, _, rfl, ⟨rfl, rfl⟩, fin { B with cells := B.cells ++ al_ b.l, ep := B.ep + 1, ver := B.ver + 1 } (by simp only [hcs]) rfl (Nat.le_succ_of_le d2) d1, Nat.le_refl _, hch _⟩
   ·rw [if_neg fun h => hcl h.2.2.2.1, if_pos ⟨trivial, trivial, d3, d5, d1, hlim⟩]
    exact ⟨_, _, rfl, ⟨rfl, rfl⟩, fin { B with cells := B.cells.take (a.l.length * Enc.w α) ++ al_ b.l, ep := B.ep + 2, low := B.ep + 1, ver := B.ver + 2 } (by simp only [d6]) rfl (by simp) d1, Nat.le_refl _, hch _⟩
theorem pm_ (hm : m.chg = true) (hmb : m.base σ0) {α : Type} [Enc α] {x y : Operand} {t1 ty1 : T} {a b c : Sl α} {t t2 e by_ : Nat} {zc : List T} (hwr : ∀ b e o n, t1 = .ref b e o n → m.wr b) (hw : want ops L g = some true) (hS : Sub L s) (hH : Heap σ0 σ (.flt (Enc.w α) t1 a.t :: es))
  (hn : dK_ σ (Enc.w α) ty1 = some (b.l.length, al_ b.l) ∧ d9_ P t2 ty1 = true)
  (hx : gE (get L) x = some t1) (hy : gE (get L) y = some ty1) (he : ap_ P t = some e) (hz : szOf P e = some (Enc.w α)) (hby : bu_ P e = some by_) (hzz : aR_ P e = some zc)
  (hcl : (!bo_ P t2 && Nat.beq zc.length (Enc.w α) && !Nat.beq (Enc.w α) 0 && !Nat.beq by_ 0 && Nat.ble by_ 1048576) = true) (hc : appS by_ a b = some c)
  (kk : ∀ t' σ' s', ao_ t' → Heap σ0 σ' (.flt (Enc.w α) t' c.t :: es) → Sub (putL L d t') s' → opsX P O ops (nxM m) l K ⟨s', σ'⟩) : opsX P O ops m (⟨d, .call ⟨.builtin .append, #[x, y], #[t, t2]⟩, ty, ps, af, g⟩ :: l) K ⟨s, σ⟩ := by
 refine ge_ hm rfl (az_ hS hw) fun kx hkx hi => ?_
 obtain ⟨t', σ', k1, k2, k3, k4, k5⟩ := pa_ hkx (Mo.inb_base hi hmb) hH he hz hby hzz hcl hn.1 hn.2 hc
 refine ⟨t', σ', ?_, ⟨k4, fun x hx hne => (k5 x hx hne).imp id fun h => ⟨by obtain ⟨⟨e, o, n, h1⟩, _⟩ := h; exact hwr x e o n h1, h.2⟩⟩, ?_⟩
 ·have ev : bh_ s [x, y] = some [t1, ty1] := by simp only [bh_, aj_ hS hx, aj_ hS hy, Option.bind_some, Option.map_some]
  show ((bh_ s [x, y]).bind fun args => match args, [t, t2] with | [x, y], [t, t2] => (aX_ P kx σ t t2 x y).map fun (x, σ) => ARes.val x σ | _, _ => none) = _
  rw [ev, Option.bind_some]
  show (aX_ P kx σ t t2 _ _).map _ = _
  rw [k1]; rfl
 ·rw [br_]; exact kk _ _ _ k2 k3 (aQ_ hS d _ σ)
theorem o5_ (hm : m.chg = true) (hmb : m.base σ0) {α : Type} [Enc α] {z : Bool} [Hld z α] {x y : Operand} {t1 ty1 : T} {a b c : Sl α} {t t2 e by_ : Nat} {zc : List T} (hwr : ∀ b e o n, t1 = .ref b e o n → m.wr b) (hw : want ops L g = some true) (hS : Sub L s) (hH : Heap σ0 σ (.own z (Enc.w α) t1 a.t :: es))
  (hn : dK_ σ (Enc.w α) ty1 = some (b.l.length, al_ b.l) ∧ d9_ P t2 ty1 = true)
  (hx : gE (get L) x = some t1) (hy : gE (get L) y = some ty1) (he : ap_ P t = some e) (hz : szOf P e = some (Enc.w α)) (hby : bu_ P e = some by_) (hzz : aR_ P e = some zc)
  (hcl : (!bo_ P t2 && Nat.beq zc.length (Enc.w α) && !Nat.beq (Enc.w α) 0 && !Nat.beq by_ 0 && Nat.ble by_ 1048576) = true) (hc : appS by_ a b = some c)
  (kk : ∀ t' σ' s', ao_ t' → Heap σ0 σ' (.own z (Enc.w α) t' c.t :: es) → Sub (putL L d t') s' → opsX P O ops (nxM m) l K ⟨s', σ'⟩) : opsX P O ops m (⟨d, .call ⟨.builtin .append, #[x, y], #[t, t2]⟩, ty, ps, af, g⟩ :: l) K ⟨s, σ⟩ := by
 refine ge_ hm rfl (az_ hS hw) fun kx hkx hi => ?_
 obtain ⟨t', σ', k1, k2, k3, k4, k5⟩ := kr_ hkx (Mo.inb_base hi hmb) (ents := []) hH hc he hz hby hzz hcl hn.1 hn.2 (cellsL_one b.l) (cellsL_len b.l) (fun S σ' _ _ _ => ⟨[], 0, by simp, by simp, Hld.list σ' 0 b.l⟩)
 refine ⟨t', σ', ?_, ⟨k4, fun x hx hne => (k5 x hx hne).imp id fun h => ⟨by obtain ⟨⟨e, o, n, h1⟩, _⟩ := h; exact hwr x e o n h1, h.2⟩⟩, ?_⟩
 ·have ev : bh_ s [x, y] = some [t1, ty1] := by simp only [bh_, aj_ hS hx, aj_ hS hy, Option.bind_some, Option.map_some]
  show ((bh_ s [x, y]).bind fun args => match args, [t, t2] with | [x, y], [t, t2] => (aX_ P kx σ t t2 x y).map fun (x, σ) => ARes.val x σ | _, _ => none) = _
  rw [ev, Option.bind_some]
  show (aX_ P kx σ t t2 _ _).map _ = _
  rw [k1]; rfl
 ·rw [br_]; exact kk _ _ _ k2 k3 (aQ_ hS d _ σ)
def cutS {α : Type} (a : Sl α) (h : Int) : Option (Sl α) := if 0 ≤ h ∧ h ≤ a.l.length ∧ a.l.length ≠ 0 then some ⟨false, a.l.take h.toNat⟩ else none
theorem r0_ {α : Type} [Enc α] {x hi : Operand} {t e : TypeId} {t1 : T} {a c : Sl α} {kk : IntKind} {j : Int} (hm : ∀ b e o n, t1 = .ref b e o n → m.lt b) (hw : want ops L g = some true) (hS : Sub L s) (hH : Heap σ0 σ (.flt (Enc.w α) t1 a.t :: es)) (hx : gE (get L) x = some t1) (hhi : gE (get L) hi = some (.int kk j))
  (he : ap_ P t = some e) (hz : szOf P e = some (Enc.w α)) (hc : cutS a j = some c)
  (k : ∀ t' s', ao_ t' → Heap σ0 σ (.flt (Enc.w α) t' c.t :: es) → Sub (putL L d t') s' → opsX P O ops (nxM m) l K ⟨s', σ⟩) : opsX P O ops m (⟨d, .slice t x none (some hi) none, ty, ps, af, g⟩ :: l) K ⟨s, σ⟩ := by
 unfold cutS at hc
 split at hc
 ·rename_i hh
  injection hc with hc; subst hc
  rcases dH_ hH with ⟨rfl, rfl⟩ | ⟨rfl, rfl⟩ | ⟨b, B, rfl, hz2, hB, d1, d2, d3, d4, d5, d6⟩
  ·exact absurd rfl hh.2.2
  ·exact absurd rfl hh.2.2
  ·have hj : j.toNat ≤ a.l.length := by omega
   refine dB_ hw hS (v := .ref b B.ep 0 j.toNat) (fun kk' σ' ha' => ?_) (fun s' hs' => k _ s' ⟨rfl, rfl⟩ ?_ hs')
   ·rw [jj_, aj_ hS hx, Option.bind_some, ed_, Option.bind_some]
    show ((Option.map some (evalO s hi)).bind _) = _
    rw [aj_ hS hhi, Option.map_some, Option.bind_some, Option.bind_some, iY_]
    simp only [okO, Bool.and_self, if_true, io_, he, hz, Mo.al_blk ha' (hm _ _ _ _ rfl), hB, Option.bind_some, boundA, if_pos hh.1]
    rw [if_pos ⟨by omega, hj, d3, d2, d4⟩]; simp
   ·refine Heap.step (es1 := [.flt (Enc.w α) (.ref b B.ep 0 a.l.length) a.t]) (es2 := [.flt (Enc.w α) (.ref b B.ep 0 j.toNat) (Sl.t (⟨false, a.l.take j.toNat⟩ : Sl α))]) (es := es) hH (Nat.le_refl _) fun S hS hnd hbd => ?_
    obtain ⟨S1, F1, rfl, h2, hnil⟩ := hS
    cases hnil
    have hx1 : S1 = [b] := by
     rcases h2 with ⟨h, _⟩ | ⟨h, _⟩ | ⟨b2, B2, n2, h2, _, rfl, _⟩
     ·cases h
     ·cases h
     ·injection h2 with h2 _; rw [h2]
    subst hx1
    refine ⟨[b], ⟨[b], [], rfl, mY_ rfl (by simp; omega) hB d1 d2 d3 d4 ?_, rfl⟩, by simp, fun b hb => .inl (by simpa using hb), fun y hy hm => rfl⟩
    rw [← cellsL_take, ← d6, List.take_take, Nat.min_eq_left (Nat.mul_le_mul_right _ hj)]
 ·cases hc
theorem qM_ {α : Type} [Enc α] {x : Operand} {w : Nat} {t1 : T} {a : Sl α} {t : TypeId} (hw : want ops L g = some true) (hS : Sub L s) (hH : Heap σ0 σ (.flt w t1 a.t :: es)) (hx : gE (get L) x = some t1) (hk : aB_ P t = 4)
  (kk : ∀ s', Sub (putL L d (.int .i64 a.l.length)) s' → opsX P O ops (nxM m) l K ⟨s', σ⟩) : opsX P O ops m (⟨d, .call ⟨.builtin .len, #[x], #[t]⟩, ty, ps, af, g⟩ :: l) K ⟨s, σ⟩ := by
 have hl : lenA P σ t t1 = some (.int .i64 a.l.length) := by
  rcases dH_ hH with ⟨rfl, rfl⟩ | ⟨rfl, rfl⟩ | ⟨b, B, rfl, _⟩ <;> simp [hk]
 refine dB_ hw hS (fun kk σ' _ => ?_) kk
 have ev : bh_ s [x] = some [t1] := by simp only [bh_, aj_ hS hx, Option.bind_some, Option.map_some]
 rw [pn_]
 show (bh_ s [x]).bind _ = _
 rw [ev, Option.bind_some, kq_, ky_ P σ' σ, hl]; rfl
theorem rY_ {α : Type} [Enc α] {x i : Operand} {t e : TypeId} {t1 : T} {a : Sl α} {kk : IntKind} {j : Int} {y : α} (hm : ∀ b e o n, t1 = .ref b e o n → m.lt b) (hw : want ops L g = some true) (hS : Sub L s) (hH : Heap σ0 σ (.flt (Enc.w α) t1 a.t :: es)) (hx : gE (get L) x = some t1) (hi : gE (get L) i = some (.int kk j))
  (he : ap_ P t = some e) (hz : szOf P e = some (Enc.w α)) (hy : elt a j = some y)
  (k : ∀ b ep s', t1 = .ref b ep 0 a.l.length → Sub (putL L d (.ptr b ep (j.toNat * Enc.w α) (Enc.w α))) s' → opsX P O ops (nxM m) l K ⟨s', σ⟩) : opsX P O ops m (⟨d, .indexAddr t x i, ty, ps, af, g⟩ :: l) K ⟨s, σ⟩ := by
 obtain ⟨q1, q2, q3⟩ := e7_ hy
 rcases dH_ hH with ⟨rfl, rfl⟩ | ⟨rfl, rfl⟩ | ⟨b, B, rfl, hz2, hB, d1, d2, d3, d4, d5, d6⟩
 ·simp at q3
 ·simp at q3
 ·refine dB_ hw hS (fun kk σ' ha' => ?_) (fun s' => k b B.ep s' rfl)
  rw [f0_, aj_ hS hx, Option.bind_some, aj_ hS hi, Option.bind_some, ot_, he, Option.bind_some, hz, Option.bind_some, Mo.al_blk ha' (hm _ _ _ _ rfl), hB, Option.bind_some, if_pos ⟨q1, q2, d3⟩, Nat.zero_add]; rfl
theorem po_ {α : Type} [Enc α] {ad : Operand} {t : TypeId} {t1 : T} {a : Sl α} {j : Int} {y : α} {b ep off n : Nat} {c : List T} {v : T} (hm : ∀ b e o n, t1 = .ref b e o n → m.lt b) (hw : want ops L g = some true) (hS : Sub L s) (hH : Heap σ0 σ (.flt (Enc.w α) t1 a.t :: es)) (hr : t1 = .ref b ep 0 a.l.length)
  (ha : gE (get L) ad = some (.ptr b ep (j.toNat * Enc.w α + off) n)) (hy : elt a j = some y) (hc : Enc.cells y = c) (hn : Nat.ble (off + n) (Enc.w α) = true) (hv : part P t ((c.drop off).take n) 0 = some v)
  (k : ∀ s', Sub (putL L d v) s' → opsX P O ops (nxM m) l K ⟨s', σ⟩) : opsX P O ops m (⟨d, .load t ad, ty, ps, af, g⟩ :: l) K ⟨s, σ⟩ := by
 obtain ⟨q1, q2, q3⟩ := e7_ hy
 have hn := Nat.le_of_ble_eq_true hn
 rcases dH_ hH with ⟨rfl, rfl⟩ | ⟨rfl, rfl⟩ | ⟨b', B, rfl, hz2, hB, d1, d2, d3, d4, d5, d6⟩
 ·cases hr
 ·cases hr
 ·injection hr with e1 e2 _ _
  subst e1; subst e2
  refine dB_ hw hS (fun kk σ' ha' => ?_) k
  have hcl : c.length = Enc.w α := by rw [← hc, Enc.len]
  have hj : (j.toNat + 1) * Enc.w α ≤ a.l.length * Enc.w α := Nat.mul_le_mul_right _ (by omega)
  have hcell : (B.cells.drop (j.toNat * Enc.w α + off)).take n = (c.drop off).take n := by
   have h1 : ((B.cells.take (a.l.length * Enc.w α)).drop (j.toNat * Enc.w α + off)).take n = (c.drop off).take n := by
    rw [d6, ← List.drop_drop, f8_ a.l j.toNat y q3, hc, List.drop_append_of_le_length (by omega), List.take_append_of_le_length (by simp; omega)]
   rw [← h1, List.drop_take, List.take_take, Nat.min_eq_left (by rw [Nat.succ_mul] at hj; omega)]
  rw [hS_, aj_ hS ha, Option.bind_some, eA_, Mo.al_blk ha' (hm _ _ _ _ rfl), hB, Option.bind_some, if_pos d2, hcell, hv]; rfl
end
end Go.Am
end
section
set_option linter.unusedVariables false
set_option linter.unusedSimpArgs false
namespace Go.Am
open Classical
def Kb (F : List Nat) (σk : St) (x : Nat) (c : List T) : Prop := x ∈ F ∧ ∃ B, σk.blk x = some B ∧ B.cells = c ∧ B.ep = 0 ∧ B.low = 0
def KLe (F : List Nat) (σ : St) (F2 : List Nat) (σ2 : St) : Prop := F.Nodup ∧ ∀ b ∈ F, b ∈ F2 ∧ σ2.blk b = σ.blk b
theorem Kb.mono {F F2 : List Nat} {σ σ2 : St} {x : Nat} {c : List T} (h : Kb F σ x c) (k : KLe F σ F2 σ2) : Kb F2 σ2 x c := by
 obtain ⟨h1, B, h2, h3⟩ := h
 obtain ⟨k1, k2⟩ := k.2 x h1
 exact ⟨k1, B, by rw [k2, h2], h3⟩
theorem cb_.memE {σ : St} : ∀ {es : List Ent} {F : List Nat} {e : Ent}, cb_ σ es F → e ∈ es → ∃ S, kB_ σ e S ∧ S.Sublist F
 | [], F, e, h, he => by cases he
 | e' :: es, F, e, h, he => by
  obtain ⟨S, F', rfl, h1, h2⟩ := h
  rcases List.mem_cons.1 he with rfl | he
  ·exact ⟨S, h1, List.sublist_append_left _ _⟩
  ·obtain ⟨S2, k1, k2⟩ := h2.memE he
   exact ⟨S2, k1, k2.trans (List.sublist_append_right _ _)⟩
theorem Heap.wrapN {σ0 σ : St} {A es : List Ent} (h : Heap σ0 σ (A ++ es)) : ∃ F2 σ2, Heap σ0 σ (.keep F2 σ2 :: es) ∧ (∀ σ' es', Heap σ0 σ' (.keep F2 σ2 :: es') → Heap σ0 σ' (A ++ es')) ∧
  (∀ x c, Ent.box x c ∈ A → Kb F2 σ2 x c) ∧ ∀ Fk σk, Ent.keep Fk σk ∈ A → KLe Fk σk F2 σ2 := by
 obtain ⟨F, h1, h2, h3⟩ := h.ex
 obtain ⟨F1, F2, rfl, h4, h5⟩ := h1.split
 have hnd := (List.nodup_append.1 h2).1
 refine ⟨F1, σ, ⟨h.grow, F1 ++ F2, ⟨F1, F2, rfl, ⟨rfl, fun b hb => ⟨rfl, h4.some b hb⟩⟩, h5⟩, h2, h3⟩, fun σ' es' k => ?_, fun x c hx => ?_, fun Fk σk hx => ?_⟩
 ·obtain ⟨G, k1, k2, k3⟩ := k.ex
  obtain ⟨S, F', rfl, ⟨rfl, k6⟩, k7⟩ := k1
  exact ⟨k.grow, S ++ F', (h4.same fun b hb => (k6 b hb).1).join k7, k2, k3⟩
 ·obtain ⟨S, ⟨rfl, B, q1, q2, q3, q4, _⟩, q5⟩ := h4.memE hx
  exact ⟨q5.subset (by simp), B, q1, q2, q3, q4⟩
 ·obtain ⟨S, ⟨rfl, q1⟩, q5⟩ := h4.memE hx
  exact ⟨hnd.sublist q5, fun b hb => ⟨q5.subset hb, (q1 b hb).1⟩⟩
theorem Heap.part {σ0 σ σk σ2 : St} {Fk F2 : List Nat} {es : List Ent} (h : Heap σ0 σ (.keep F2 σ2 :: es)) (k : KLe Fk σk F2 σ2) : ∃ F3, Heap σ0 σ (.keep Fk σk :: .keep F3 σ2 :: es) ∧ ∀ σ' es', Heap σ0 σ' (.keep Fk σk :: .keep F3 σ2 :: es') → Heap σ0 σ' (.keep F2 σ2 :: es') := by
 obtain ⟨S0, ⟨rfl, _⟩, hn2, _⟩ := h.head
 refine ⟨S0.filter fun b => decide (b ∉ Fk), ?_, fun σ' es' h' => ?_⟩
 ·refine Heap.step (es1 := [.keep S0 σ2]) (es2 := [.keep Fk σk, .keep (S0.filter fun b => decide (b ∉ Fk)) σ2]) (es := es) h (Nat.le_refl _) fun S hS hnd hbd => ?_
  obtain ⟨S1, F1, rfl, ⟨rfl, h1⟩, hnil⟩ := hS
  cases hnil
  refine ⟨Fk ++ S1.filter fun b => decide (b ∉ Fk), ⟨Fk, S1.filter fun b => decide (b ∉ Fk), rfl, ⟨rfl, fun b hb => ?_⟩, _, [], by simp, ⟨rfl, fun b hb => h1 b (List.mem_filter.1 hb).1⟩, rfl⟩, ?_, fun b hb => .inl ?_, fun _ _ _ => rfl⟩
  ·obtain ⟨k1, k2⟩ := k.2 b hb
   exact ⟨by rw [(h1 b k1).1, k2], (h1 b k1).2⟩
  ·exact List.nodup_append.2 ⟨k.1, hn2.filter _, fun a ha b hb => by
    rintro rfl
    have := (List.mem_filter.1 hb).2
    simp at this; exact this ha⟩
  ·rw [List.append_nil]
   rcases List.mem_append.1 hb with hb | hb
   ·exact (k.2 b hb).1
   ·exact (List.mem_filter.1 hb).1
 ·refine Heap.step (es1 := [.keep Fk σk, .keep (S0.filter fun b => decide (b ∉ Fk)) σ2]) (es2 := [.keep S0 σ2]) (es := es') h' (Nat.le_refl _) fun S hS hnd hbd => ?_
  obtain ⟨S1, F1, rfl, ⟨rfl, h1⟩, S3, F3, rfl, ⟨rfl, h3⟩, hnil⟩ := hS
  cases hnil
  refine ⟨S0, ⟨S0, [], by simp, ⟨rfl, fun b hb => ?_⟩, rfl⟩, hn2, fun b hb => .inl ?_, fun _ _ _ => rfl⟩
  ·by_cases hm : b ∈ S1
   ·exact ⟨by rw [(h1 b hm).1, (k.2 b hm).2], (h1 b hm).2⟩
   ·exact h3 b (List.mem_filter.2 ⟨hb, by simpa using hm⟩)
  ·rw [List.append_nil]
   by_cases hm : b ∈ S1
   ·exact List.mem_append_left _ hm
   ·exact List.mem_append_right _ (List.mem_filter.2 ⟨hb, by simpa using hm⟩)
theorem hd_ {σ0 σ : St} {es : List Ent} {i : Nat} {F : List Nat} {σk : St} (hH : Heap σ0 σ es) (he : es[i]? = some (.keep F σk)) : ∀ b ∈ F, σ.blk b = σk.blk b := by
 obtain ⟨S, ⟨rfl, h1⟩, _⟩ := (hH.at i he).head
 exact fun b hb => (h1 b hb).1
theorem jW_ {σ0 σ σ1 σ2 : St} {es es1 : List Ent} {i j : Nat} {F : List Nat} {R : Nat → Prop} (hH : Heap σ0 σ es) (he : es[i]? = some (.keep F σ2)) (hK : Heap σ0 σ1 es1) (he1 : es1[j]? = some (.keep F σ2)) (hR : ∀ x, R x → x ∈ F) : ∀ x, R x → σ1.blk x = σ.blk x := fun x hx => by
 rw [hd_ hK he1 x (hR x hx), hd_ hH he x (hR x hx)]
section
variable (P : Program) (md : Nat → Md) (X : Ext) {α : Type}
def dr_ (en : α → List T → List Ent) (n : Nat) (th : T) (Φ : Int → α → Option (Bool × α)) (F : List Nat) (σk : St) : Prop :=
 ∀ e S y hs, hs.length = n → Φ e S = some y → ∃ f a b, th = .fn f a b ∧ RawS P md X f (a ++ [.int .i64 e] ++ b) n (fun _ => .bool y.1) (en S hs ++ [.keep F σk]) (fun hs' => en y.2 hs' ++ [.keep F σk])
end
section
variable {P : Program} {md : Nat → Md} {X : Ext} {α : Type} {en : α → List T → List Ent} {n : Nat} {th : T} {Φ : Int → α → Option (Bool × α)} {F F2 : List Nat} {σk σ2 : St}
theorem dr_.mono (h : dr_ P md X en n th Φ F σk) (k : KLe F σk F2 σ2) : dr_ P md X en n th Φ F2 σ2 := fun e S y hs hl hy => by
 obtain ⟨f, a, b, e1, h1⟩ := h e S y hs hl hy
 refine ⟨f, a, b, e1, fun σ0 σ E hH => ?_⟩
 rw [List.append_assoc] at hH
 have hH := hH.perm List.perm_append_comm
 obtain ⟨F3, h2, h3⟩ := Heap.part (es := E ++ en S hs) hH k
 have h2 : Heap σ0 σ ((en S hs ++ [.keep F σk]) ++ (.keep F3 σ2 :: E)) := h2.perm (by
  rw [List.append_assoc]
  refine List.Perm.trans ?_ List.perm_append_comm
  simp only [List.cons_append, List.nil_append]; exact .refl _)
 obtain ⟨hs', σ', q1, q2, q3⟩ := h1 σ0 σ _ h2
 refine ⟨hs', σ', q1, q2, ?_⟩
 have q3 : Heap σ0 σ' (.keep F σk :: .keep F3 σ2 :: (E ++ en y.2 hs')) := q3.perm (by
  rw [List.append_assoc]
  refine List.Perm.trans List.perm_append_comm ?_
  simp only [List.cons_append, List.nil_append]; exact .refl _)
 have q4 := h3 _ _ q3
 rw [List.append_assoc]
 exact q4.perm (by
  refine List.Perm.trans ?_ List.perm_append_comm
  simp only [List.cons_append, List.nil_append]; exact .refl _)
variable {ops : Array Oper} {m : Mo} {l : List Oper} {K : Fr → Prop} {s : Nat → T} {σ σ0 : St} {L : List (Nat × T)} {es ents : List Ent}
variable {d : Option Nat} {ty : TypeId} {ps : String} {af : Array Edge} {g : Option (Nat × Bool)}
theorem RawS.keep {f n : Nat} {args : List T} {tree : List T → T} {ents : List Ent} {ents' : List T → List Ent} (h : RawS P md X f args n tree ents ents') (ks : List Ent) : RawS P md X f args n tree (ents ++ ks) (fun hs => ents' hs ++ ks) := fun σ0 σ E hH => by
 rw [List.append_assoc] at hH
 obtain ⟨hs, σ', h1, h2, h3⟩ := h σ0 σ (ks ++ E) hH
 exact ⟨hs, σ', h1, h2, by rw [List.append_assoc]; exact h3⟩
theorem gB_ {fo : Operand} {as : Array Operand} {tys : Array TypeId} {e : Int} {S : α} {y : Bool × α} {hs : List T} (hth : dr_ P md X en n th Φ F σk) (hl : hs.length = n) (hy : Φ e S = some y) (hw : want ops L g = some true) (hS : Sub L s) (hf : gE (get L) fo = some th) (ha : gEs (get L) as.toList = some [.int .i64 e])
  (hH : Heap σ0 σ ((en S hs ++ [.keep F σk]) ++ es))
  (k : ∀ hs' σ' s', hs'.length = n → Heap σ0 σ' ((en y.2 hs' ++ [.keep F σk]) ++ es) → Sub (putL L d (.bool y.1)) s' → opsX P (run P md X) ops .q l K ⟨s', σ'⟩) : opsX P (run P md X) ops .q (⟨d, .call ⟨.value fo, as, tys⟩, ty, ps, af, g⟩ :: l) K ⟨s, σ⟩ := by
 obtain ⟨f, a, b, rfl, h1⟩ := hth e S y hs hl hy
 exact l9_ hw hS hf ha hH h1 k
theorem iV_ (hX : XOk X) (hm : m.chg = true) (R : Nat → Prop) (hR : Stay R es) (hwr : ∀ x, ¬ R x → m.wr x) {fo : Operand} {as : Array Operand} {tys : Array TypeId} {e : Int} {S : α} {y : Bool × α} {hs : List T} (hth : dr_ P md X en n th Φ F σk) (hl : hs.length = n) (hy : Φ e S = some y) (hw : want ops L g = some true) (hS : Sub L s) (hf : gE (get L) fo = some th) (ha : gEs (get L) as.toList = some [.int .i64 e])
  (hH : Heap σ0 σ ((en S hs ++ [.keep F σk]) ++ es))
  (k : ∀ hs' σ' s', hs'.length = n → Heap σ0 σ' ((en y.2 hs' ++ [.keep F σk]) ++ es) → Sub (putL L d (.bool y.1)) s' → opsX P (run P md X) ops (nxM m) l K ⟨s', σ'⟩) : opsX P (run P md X) ops m (⟨d, .call ⟨.value fo, as, tys⟩, ty, ps, af, g⟩ :: l) K ⟨s, σ⟩ := by
 obtain ⟨f, a, b, rfl, h1⟩ := hth e S y hs hl hy
 exact lo_ hX hm R hR hwr hw hS hf ha hH h1 k
theorem k7_ {O : aH_} {a : Operand} {t : TypeId} {b off n : Nat} {c : List T} {v : T} (i : Nat) (hlt : m.lt b) (hk : Kb F σk b c) (hw : want ops L g = some true) (hS : Sub L s) (hH : Heap σ0 σ es) (he : es[i]? = some (.keep F σk)) (ha : gE (get L) a = some (.ptr b 0 off n)) (hv : part P t ((c.drop off).take n) 0 = some v)
  (k : ∀ s', Sub (putL L d v) s' → opsX P O ops (nxM m) l K ⟨s', σ⟩) : opsX P O ops m (⟨d, .load t a, ty, ps, af, g⟩ :: l) K ⟨s, σ⟩ := by
 obtain ⟨h1, B, h2, h3, h4, h5⟩ := hk
 have h6 := hd_ hH he b h1
 subst h3
 exact dB_ hw hS (fun kk σ' ha' => by rw [hS_, aj_ hS ha, Option.bind_some, eA_, Mo.al_blk ha' hlt, h6, h2, Option.bind_some, if_pos (by omega), hv]; rfl) k
def Pt (F : List Nat) (σk : St) (pp : T) (c : List T) : Prop := (∃ rest, pp = .vw (c ++ rest)) ∨ ∃ b, pp = .ptr b 0 0 c.length ∧ Kb F σk b c
theorem Pt.mono {pp : T} {c : List T} (h : Pt F σk pp c) (k : KLe F σk F2 σ2) : Pt F2 σ2 pp c := h.imp id fun ⟨b, h1, h2⟩ => ⟨b, h1, h2.mono k⟩
theorem Pt.vw {c rest : List T} : Pt F σk (.vw (c ++ rest)) c := .inl ⟨rest, rfl⟩
theorem Pt.box {b : Nat} {c : List T} {n : Nat} (hn : n = c.length) (h : Kb F σk b c) : Pt F σk (.ptr b 0 0 n) c := .inr ⟨b, by rw [hn], h⟩
theorem Pt.one {pp : T} {c : List T} (h : Pt F σk pp c) : ao_ pp := by
 rcases h with ⟨rest, rfl⟩ | ⟨b, rfl, _⟩ <;> exact ⟨rfl, rfl⟩
theorem oN_ {O : aH_} {x : Operand} {pp : T} {c : List T} (hp : Pt F σk pp c) (hw : want ops L g = some true) (hS : Sub L s) (hx : gE (get L) x = some pp)
  (k : ∀ s', Sub (putL L d pp) s' → opsX P O ops (nxM m) l K ⟨s', σ⟩) : opsX P O ops m (⟨d, .nilCheck x, ty, ps, af, g⟩ :: l) K ⟨s, σ⟩ := by
 refine dB_ hw hS (fun kk σ' _ => ?_) k
 refine hl_ hS ?_ kk σ' _ _ _ _ _
 rcases hp with ⟨rest, rfl⟩ | ⟨b, rfl, _⟩ <;> simp only [pOp, hx]
def ptAt (pp : T) (off n : Nat) : T := match pp with
 | .vw cs => .vw (cs.drop off)
 | .ptr b e o m => .ptr b e (o + off) n
 | t => t
theorem kN_ {t : TypeId} {xs ys : List T} {v : T} (h : part P t xs 0 = some v) : part P t (xs ++ ys) 0 = some v := by
 unfold part at h ⊢
 cases ha : jI_ P t with
 | none => rw [ha] at h; cases h
 | some b =>
  rw [ha, Option.bind_some] at h
  rw [Option.bind_some]
  cases b with
  | false =>
   simp only [Bool.false_eq_true, if_false] at h ⊢
   have hl : 0 < xs.length := (List.getElem?_eq_some_iff.1 h).1
   rw [List.getElem?_append_left hl]; exact h
  | true =>
   simp only [if_true] at h ⊢
   cases hs : szOf P t with
   | none => rw [hs] at h; cases h
   | some k =>
    rw [hs, Option.bind_some] at h
    rw [Option.bind_some]
    split at h
    ·rename_i hk
     rw [if_pos (by rw [List.length_append]; omega), List.drop_zero, List.take_append_of_le_length (by omega)]
     rw [List.drop_zero] at h; exact h
    ·cases h
theorem ma_ {O : aH_} {x : Operand} {t : TypeId} {f off n : Nat} {ft : TypeId} {pp : T} {c : List T} (hp : Pt F σk pp c) (hw : want ops L g = some true) (hS : Sub L s) (hx : gE (get L) x = some pp) (hf : be_ P t f = some (off, ft, n)) (hn : (!Nat.beq n 0 && Nat.ble (off + n) c.length) = true)
  (k : ∀ s', Sub (putL L d (ptAt pp off n)) s' → opsX P O ops (nxM m) l K ⟨s', σ⟩) : opsX P O ops m (⟨d, .fieldAddr t x f, ty, ps, af, g⟩ :: l) K ⟨s, σ⟩ := by
 simp only [Bool.and_eq_true, Bool.not_eq_true'] at hn
 have n0 := Nat.ne_of_beq_eq_false hn.1; have n1 := Nat.le_of_ble_eq_true hn.2
 refine dB_ hw hS (fun kk σ' _ => ?_) k
 refine hl_ hS ?_ kk σ' _ _ _ _ _
 rcases hp with ⟨rest, rfl⟩ | ⟨b, rfl, _⟩
 ·simp only [pOp, hx, hf, if_neg n0, ptAt]
  rw [if_pos (by rw [List.length_append]; omega)]
 ·simp only [pOp, hx, hf, if_neg n0, ptAt]
  rw [if_pos n1]
theorem n8_ {O : aH_} {x : Operand} {t : TypeId} {off n : Nat} {pp v : T} {c : List T} (i : Nat) (hm : ∀ b, m.lt b) (hp : Pt F σk pp c) (hw : want ops L g = some true) (hS : Sub L s) (hH : Heap σ0 σ es) (he : es[i]? = some (.keep F σk)) (hx : gE (get L) x = some (ptAt pp off n)) (hn : Nat.ble off c.length = true) (hv : part P t ((c.drop off).take n) 0 = some v)
  (k : ∀ s', Sub (putL L d v) s' → opsX P O ops (nxM m) l K ⟨s', σ⟩) : opsX P O ops m (⟨d, .load t x, ty, ps, af, g⟩ :: l) K ⟨s, σ⟩ := by
 have hn := Nat.le_of_ble_eq_true hn
 rcases hp with ⟨rest, rfl⟩ | ⟨b, rfl, hk⟩
 ·refine dB_ hw hS (fun kk σ' _ => ?_) k
  rw [hS_, aj_ hS hx, Option.bind_some]
  show Option.map _ (hE_ P σ' t (.vw ((c ++ rest).drop off))) = _
  rw [ll_, List.drop_append_of_le_length hn]
  have := kN_ (ys := (c.drop off).drop n) hv
  rw [List.take_append_drop] at this
  rw [kN_ this]; rfl
 ·refine k7_ i (hm _) hk hw hS hH he (off := off) (n := n) ?_ hv k
  rw [hx]; simp [ptAt]
theorem mT_ {β : Type} [Enc β] [Hld false β] {t : T} {a : Sl β} (h : Heap σ0 σ (.flt (Enc.w β) t a.t :: es)) : ∃ D S, frz σ D t = some (a.t, S) := by
 rcases dH_ h with ⟨rfl, rfl⟩ | ⟨rfl, rfl⟩ | ⟨b, B, rfl, hz, hB, c1, c2, c3, c4, c5, c6⟩
 ·exact ⟨0, [], rfl⟩
 ·exact ⟨0, [], rfl⟩
 ·refine ⟨1, [b], ?_⟩
  have h1 : frzL (frz σ 0) (al_ a.l) = some (al_ a.l, []) := ay_ (fun t v S _ hq _ => fB_ 0 t v S hq) (Hld.list (z := false) σ 0 a.l)
  simp only [frz, hB, Option.bind_some, List.drop_zero, c3, c6, h1, Option.map_some]
  rw [if_pos ⟨c2, c4⟩]
  show some (T.row false a.l.length (al_ a.l), [b]) = some (T.row a.z a.l.length (al_ a.l), [b])
  rw [hz]
theorem oZ_ {β : Type} [Enc β] [Hld false β] {tb t1 t2 : T} {a1 a2 : Sl β} (h : Heap σ0 σ (.flt 1 tb (.row false 2 [t1, t2]) :: .flt (Enc.w β) t1 a1.t :: .flt (Enc.w β) t2 a2.t :: es)) : ∃ D S, frzL (frz σ D) [tb] = some ([Sl.t (⟨false, [a1, a2]⟩ : Sl (Sl β))], S) := by
 obtain ⟨D1, S1, h1⟩ := mT_ (h.at 1 rfl)
 obtain ⟨D2, S2, h2⟩ := mT_ (h.at 2 rfl)
 have h1 := e1_ D1 _ _ _ h1 (max D1 D2) (Nat.le_max_left _ _)
 have h2 := e1_ D2 _ _ _ h2 (max D1 D2) (Nat.le_max_right _ _)
 obtain ⟨S, hS, _⟩ := h.head
 rcases hS with ⟨_, hv, _⟩ | ⟨_, hv, _⟩ | ⟨b, B, n, rfl, hv, _, h3, h4, h5, h6, h7, h8⟩
 ·cases hv
 ·injection hv with _ e _; cases e
 ·injection hv with _ e1 e2
  subst e1
  refine ⟨max D1 D2 + 1, b :: (S1 ++ S2), ?_⟩
  simp only [frzL, frz, h3, Option.bind_some, List.drop_zero, h6, ← e2, h1, h2, Option.map_some, List.append_nil]
  rw [if_pos ⟨h5, by decide⟩]
  rfl
theorem n7_ {β : Type} {r : β} {f : Nat} (hm : m.chg = true) {Sh : eM_ β} {fo : Operand} {as : Array Operand} {tys : Array TypeId} {ts vs : List T} (hw : want ops L g = some true) (hS : Sub L s) (hf : gE (get L) fo = some (.fn f [] [])) (ha : gEs (get L) as.toList = some ts)
  (hv : md f = .own) (hH : Heap σ0 σ es) (hh : ∃ D S, frzL (frz σ D) ts = some (vs, S)) (hr : semO P md X Sh f vs = some r)
  (k : ∀ hs σ' s', hs.length = Sh.n → Heap σ0 σ' (Sh.en hs r ++ es) → Sub (putL L d (Sh.tree hs r)) s' → opsX P (run P md X) ops (nxM m) l K ⟨s', σ'⟩) : opsX P (run P md X) ops m (⟨d, .call ⟨.value fo, as, tys⟩, ty, ps, af, g⟩ :: l) K ⟨s, σ⟩ := by
 obtain ⟨D, S, h1⟩ := hh
 obtain ⟨hs, σ1, m1, m2, m3⟩ := jU_ hr (σ.mark S)
 have hrun := hP_ hv h1 m2
 have hH' : Heap σ0 ⟨σ1.next, fun i => if i < σ.next then σ.blk i else σ1.blk i⟩ (Sh.en hs r ++ es) := by
  refine Heap.step (es1 := []) (es2 := Sh.en hs r) (es := es) hH m3.grow.nx fun S' hS' _ _ => ?_
  obtain ⟨F, q1, q2, q3⟩ := m3.ex
  refine ⟨F, q1.same fun b hb => ?_, q2, fun b hb => .inr (q3 b hb), fun b hb _ => ?_⟩
  ·have := (q3 b hb).1
   simp only [jK_] at this
   simp only; rw [if_neg (by omega)]
  ·simp only; rw [if_pos hb]
 refine i0_ (f := f) (args := [] ++ ts ++ []) (r := Sh.tree hs r) (σ' := ⟨σ1.next, fun i => if i < σ.next then σ.blk i else σ1.blk i⟩) hm rfl (az_ hS hw) (fun kk σ' => by rw [hN_, bT_ hS ha, Option.bind_some, aj_ hS hf]; rfl) (by simpa using hrun) m3.grow.nx (fun x hx => by simp only; rw [if_pos hx]) ?_
 rw [br_]
 exact k _ _ _ m1 hH' (aQ_ hS d _ σ)
end
end Go.Am
end
section
set_option linter.unusedVariables false
set_option linter.unusedSimpArgs false
namespace Go.Am
def idxE : List T → St → Option (T × St)
 | [.str s, .int .u8 c], σ => some (.int .i64 (firstIdx s c.toNat.toUInt8), σ)
 | _, _ => none
theorem q2_ {P : Program} {f : Nat} {fn : Func} (h1 : P.funcs[f]? = some fn) (h2 : (fn.name == "runtime.NumGoroutine") = false) (h3 : fn.body.isNone = true) (h4 : Extern.findNext fn = none) (h5 : Extern.find fn = some Extern.BytealgIndexByte.indexByte)
  (args : List T) (σ : St) (r : T) (σ' : St) (h : idxE args σ = some (r, σ')) : fX_ P f args σ r σ' := by
 intro B0 w0 E w vs hR hv
 unfold idxE at h
 split at h
 ·rename_i σ1 s c
  injection h with h; injection h with e1 e2; subst e1; subst e2
  match vs, hv with
  | [v1, v2], hv =>
   have a1 := hv.head
   have a2 := hv.tail.head
   cases a1; cases a2
   refine .inr ⟨_, w, ?_, E, .refl E, hR, .int .i64 _, .refl _ _ _⟩
   rw [run_callFunc_extern h1 h2 h3 h4 h5]
   show Result.andThen ((Extern.BytealgIndexByte.indexByte #[.string s, .int .u8 c]).run P w) _ = _
   rw [run_indexByte_string]; rfl
  | [], hv => have := hv.1; simp at this
  | [_], hv => have := hv.1; simp at this
  | _ :: _ :: _ :: _, hv => have := hv.1; simp at this
 ·cases h
theorem sL_ (args : List T) (σ : St) (r : T) (σ' : St) (h : idxE args σ = some (r, σ')) : σ' = σ ∧ ∀ σ2, idxE args σ2 = some (r, σ2) := by
 unfold idxE at h
 split at h
 ·injection h with h; injection h with e1 e2; subst e1; subst e2
  exact ⟨rfl, fun _ => rfl⟩
 ·cases h
theorem oS_ {P : Program} {md : Nat → Md} {X : Ext} {f : Nat} {eb : Int → T} (hi : ∀ a b, eb a = eb b → a = b) (hm : md f = .raw) (hX : X f = some idxE) (s : ByteArray) (c : Int) (he : ∀ n, eb n = .int .i64 n) : semV P md X eb f [.str s, .int .u8 c] = some (firstIdx s c.toNat.toUInt8) := by
 refine iz_ hi fun σ => dh_.2 (.raw hm (.ext hX ?_))
 rw [he]; rfl
section
variable {P : Program} {md : Nat → Md} {X : Ext} {β : Type} {eb : β → T} {f : Nat} {r : β}
variable {ops : Array Oper} {m : Mo} {l : List Oper} {K : Fr → Prop} {s : Nat → T} {σ : St} {L : List (Nat × T)}
variable {d : Option Nat} {ty : TypeId} {ps : String} {af : Array Edge} {g : Option (Nat × Bool)}
theorem jh_ {fo : Operand} {as : Array Operand} {ts : Array TypeId} {xs a b : List T} {mk : List Nat → List T} {cs : List (List T)} (bs : List Nat) (hw : want ops L g = some true) (hS : Sub L s) (hf : gE (get L) fo = some (.fn f a b)) (ha : gEs (get L) as.toList = some xs)
  (hmk : mk bs = a ++ xs ++ b) (hl : hR_ σ bs cs) (hr : semL P md X eb f mk cs = some r) (k : ∀ s', Sub (putL L d (eb r)) s' → opsX P (run P md X) ops (nxM m) l K ⟨s', σ⟩) (hvw : m.vw = false) : opsX P (run P md X) ops m (⟨d, .call ⟨.value fo, as, ts⟩, ty, ps, af, g⟩ :: l) K ⟨s, σ⟩ :=
 i5_ hw hS hf ha (by rw [← hmk]; exact mG_ hr σ bs hl) (fun e => by rw [hvw] at e; cases e) k
end
end Go.Am
namespace Go.Am
theorem mc_.of_ok {P : Program} {f : Nat} {c : Code} {n : Nat} {rs : List ResultVar} (h : Ok P f c n rs) : mc_ P f := by
 obtain ⟨fn, h1, h2, h3, _⟩ := h
 exact ⟨fn, _, h1, h2, h3⟩
end Go.Am
namespace Go.Am
section
variable {P : Program} {O : aH_} {Q : aG_ → Fr → Prop} {s : Nat → T} {σ : St} {L : List (Nat × T)}
theorem c_cT {c : Operand} {a b : Code} {t : Bool} (h : t = true) (hS : Sub L s) (hc : gE (get L) c = some (.bool t)) (k : codeQ P O a Q ⟨s, σ⟩) : codeQ P O (.cond c a b) Q ⟨s, σ⟩ := kU_ hS hc (fun _ => k) (fun hf => ns_ h hf)
theorem c_cF {c : Operand} {a b : Code} {t : Bool} (h : ¬ (t = true)) (hS : Sub L s) (hc : gE (get L) c = some (.bool t)) (k : codeQ P O b Q ⟨s, σ⟩) : codeQ P O (.cond c a b) Q ⟨s, σ⟩ := kU_ hS hc (fun hf => nb_ h hf) (fun _ => k)
end
end Go.Am
namespace Go.Am
section
variable {σ0 σ : St} {es : List Ent}
theorem Heap.up1 {a0 a1 : Ent} (h : Heap σ0 σ (a0 :: a1 :: es)) : Heap σ0 σ (a1 :: a0 :: es) := h.pull 1
theorem Heap.up2 {a0 a1 a2 : Ent} (h : Heap σ0 σ (a0 :: a1 :: a2 :: es)) : Heap σ0 σ (a2 :: a0 :: a1 :: es) := h.pull 2
theorem Heap.up3 {a0 a1 a2 a3 : Ent} (h : Heap σ0 σ (a0 :: a1 :: a2 :: a3 :: es)) : Heap σ0 σ (a3 :: a0 :: a1 :: a2 :: es) := h.pull 3
theorem Heap.up4 {a0 a1 a2 a3 a4 : Ent} (h : Heap σ0 σ (a0 :: a1 :: a2 :: a3 :: a4 :: es)) : Heap σ0 σ (a4 :: a0 :: a1 :: a2 :: a3 :: es) := h.pull 4
theorem Heap.up5 {a0 a1 a2 a3 a4 a5 : Ent} (h : Heap σ0 σ (a0 :: a1 :: a2 :: a3 :: a4 :: a5 :: es)) : Heap σ0 σ (a5 :: a0 :: a1 :: a2 :: a3 :: a4 :: es) := h.pull 5
theorem Heap.up7 {a0 a1 a2 a3 a4 a5 a6 a7 : Ent} (h : Heap σ0 σ (a0 :: a1 :: a2 :: a3 :: a4 :: a5 :: a6 :: a7 :: es)) : Heap σ0 σ (a7 :: a0 :: a1 :: a2 :: a3 :: a4 :: a5 :: a6 :: es) := h.pull 7
theorem Heap.up8 {a0 a1 a2 a3 a4 a5 a6 a7 a8 : Ent} (h : Heap σ0 σ (a0 :: a1 :: a2 :: a3 :: a4 :: a5 :: a6 :: a7 :: a8 :: es)) : Heap σ0 σ (a8 :: a0 :: a1 :: a2 :: a3 :: a4 :: a5 :: a6 :: a7 :: es) := h.pull 8
end
end Go.Am
end
section
set_option linter.unusedVariables false
set_option linter.unusedSimpArgs false
namespace Go.Am
def Kn (σ0 : St) (L : List (Nat × T)) (es : List Ent) (p : Prop) (G : Fr → Prop) : Prop := p → ∀ s σ, Sub L s → Heap σ0 σ es → G ⟨s, σ⟩
inductive Ct where
 | s (c : Code)
 | b (i : Nat)
inductive Wh where
 | c (c : Code)
 | x (e : aG_)
def nx : Nat → Wh → List Ct → Option (Wh × List Ct)
 | 0, _, _ => none
 | n + 1, .c c, k => match c with
  | .seq a b => nx n (.c a) (.s b :: k)
  | .block i c => nx n (.c c) (.b i :: k)
  | .skip => nx n (.x .normal) k
  | .exit i => nx n (.x (.exit i)) k
  | .ret => nx n (.x .ret) k
  | c => some (.c c, k)
 | n + 1, .x e, k => match k with
  | [] => some (.x e, [])
  | .s c :: k => match e with
   | .normal => nx n (.c c) k
   | .exit j => nx n (.x (.exit j)) k
   | .ret => nx n (.x .ret) k
  | .b i :: k => match e with
   | .exit j => match Nat.beq j i with
    | true => nx n (.x .normal) k
    | false => nx n (.x (.exit j)) k
   | .normal => nx n (.x .normal) k
   | .ret => nx n (.x .ret) k
section
variable (P : Program) (O : aH_)
def popQ : List Ct → (aG_ → Fr → Prop) → aG_ → Fr → Prop
 | [], Q => Q
 | .s c :: k, Q => seqQ (codeQ P O c (popQ k Q)) (popQ k Q)
 | .b i :: k, Q => blkQ i (popQ k Q)
def whQ : Wh → List Ct → (aG_ → Fr → Prop) → Fr → Prop
 | .c c, k, Q, fr => codeQ P O c (popQ P O k Q) fr
 | .x e, k, Q, fr => popQ P O k Q e fr
end
section
variable {P : Program} {O : aH_} {Q : aG_ → Fr → Prop} {fr : Fr}
theorem nx_ok : ∀ {n : Nat} {w : Wh} {k : List Ct} {w' : Wh} {k' : List Ct}, nx n w k = some (w', k') → whQ P O w' k' Q fr → whQ P O w k Q fr
 | 0, _, _, _, _, h, _ => by cases h
 | n + 1, .c c, k, w', k', h, g => by
  have hd : ∀ c, some (Wh.c c, k) = some (w', k') → whQ P O (.c c) k Q fr := fun c h => by injection h with h; injection h with h1 h2; subst h1; subst h2; exact g
  cases c with
  | seq a b => exact nx_ok (n := n) (w := .c a) (k := .s b :: k) h g
  | block i c => exact nx_ok (n := n) (w := .c c) (k := .b i :: k) h g
  | skip => exact nx_ok (n := n) (w := .x .normal) h g
  | exit i => exact nx_ok (n := n) (w := .x (.exit i)) h g
  | ret => exact nx_ok (n := n) (w := .x .ret) h g
  | _ => exact hd _ h
 | n + 1, .x e, [], w', k', h, g => by injection h with h; injection h with h1 h2; subst h1; subst h2; exact g
 | n + 1, .x e, .s c :: k, w', k', h, g => by
  cases e with
  | normal => exact nx_ok (n := n) (w := .c c) (k := k) h g
  | exit j => exact nx_ok (n := n) (w := .x (.exit j)) (k := k) h g
  | ret => exact nx_ok (n := n) (w := .x .ret) (k := k) h g
 | n + 1, .x e, .b i :: k, w', k', h, g => by
  cases e with
  | normal => exact nx_ok (n := n) (w := .x .normal) (k := k) h g
  | exit j =>
   simp only [nx] at h
   show popQ P O k Q (if j = i then .normal else .exit j) fr
   split at h
   ·rename_i hb; rw [if_pos (Nat.eq_of_beq_eq_true hb)]; exact nx_ok (n := n) (w := .x .normal) (k := k) h g
   ·rename_i hb; rw [if_neg (fun e => by rw [e] at hb; simp at hb)]; exact nx_ok (n := n) (w := .x (.exit j)) (k := k) h g
  | ret => exact nx_ok (n := n) (w := .x .ret) (k := k) h g
end
def foL {α β : Type} : List α → (List α → Option β) → Option β
 | [], k => k []
 | x :: xs, k => foL xs fun ys => k (x :: ys)
theorem b8_ {α β : Type} : ∀ (l : List α) (k : List α → Option β), foL l k = k l
 | [], _ => rfl
 | x :: xs, k => by rw [foL, b8_ xs]
def tkL {β : Type} : Nat → List T → (List T → Option β) → Option β
 | 0, _, k => k []
 | _ + 1, [], _ => none
 | n + 1, x :: xs, k => tkL n xs fun ys => k (x :: ys)
theorem iI_ {β : Type} {b : β} : ∀ {n : Nat} {l : List T} {k : List T → Option β}, tkL n l k = some b → n ≤ l.length ∧ k (l.take n) = some b
 | 0, l, k, h => ⟨Nat.zero_le _, by simpa [tkL] using h⟩
 | n + 1, [], k, h => by cases h
 | n + 1, x :: xs, k, h => by
  obtain ⟨h1, h2⟩ := iI_ (n := n) (l := xs) h
  exact ⟨by simp; omega, by simpa using h2⟩
def drL : Nat → List T → Option (List T)
 | 0, l => some l
 | _ + 1, [] => none
 | n + 1, _ :: xs => drL n xs
theorem drL_some : ∀ {n : Nat} {l r : List T}, drL n l = some r → n ≤ l.length ∧ r = l.drop n
 | 0, l, r, h => ⟨Nat.zero_le _, by injection h with h; simp [h]⟩
 | n + 1, [], r, h => by cases h
 | n + 1, x :: xs, r, h => by
  obtain ⟨h1, h2⟩ := drL_some (n := n) (l := xs) h
  exact ⟨by simp; omega, by simpa using h2⟩
def ia_ (P : Program) (t : TypeId) (cs : List T) (off : Nat) : Option T :=
 match drL off cs with
 | some cs => match jI_ P t with
  | some true => match szOf P t with
   | some n => tkL n cs fun l => some (.agg l)
   | none => none
  | some false => match cs with
   | x :: _ => some x
   | [] => none
  | none => none
 | none => none
theorem kS_ {P : Program} {t : TypeId} {cs : List T} {off : Nat} {v : T} (h : ia_ P t cs off = some v) : part P t cs off = some v := by
 unfold ia_ at h
 split at h
 ·rename_i r hr
  obtain ⟨h1, rfl⟩ := drL_some hr
  unfold part
  split at h
  ·rename_i ha
   split at h
   ·rename_i n hn
    obtain ⟨h2, h3⟩ := iI_ h
    simp only [List.length_drop] at h2
    rw [ha, Option.bind_some, hn]
    simp only [if_true, Option.bind_some]
    rw [if_pos (by omega)]; exact h3
   ·cases h
  ·rename_i ha
   rw [ha, Option.bind_some]
   simp only [Bool.false_eq_true, if_false]
   split at h
   ·rename_i x xs hx
    injection h with h; subst h
    have := congrArg (·[0]?) hx
    simpa using this
   ·cases h
  ·cases h
 ·cases h
def n2_ (place : Nat → Option (Nat × Nat)) (cells : List T) : List (Nat × T) → Option (List T)
 | [] => some cells
 | (i, v) :: rest => match place i with
  | some (off, size) => match Nat.beq v.cells.length size && Nat.ble (off + size) cells.length && v.cells.all T.one with
   | true => foL (splice cells off v.cells) fun cells => n2_ place cells rest
   | false => none
  | none => none
theorem lc_ {place : Nat → Option (Nat × Nat)} : ∀ {ps : List (Nat × T)} {cells r : List T}, n2_ place cells ps = some r → dW_ place cells ps = some r
 | [], _, _, h => h
 | (i, v) :: rest, cells, r, h => by
  simp only [n2_] at h
  split at h
  ·rename_i off size hp
   split at h
   ·rename_i hc
    simp only [Bool.and_eq_true] at hc
    rw [b8_] at h
    simp only [dW_, hp, Option.bind_some]
    rw [if_pos ⟨Nat.eq_of_beq_eq_true hc.1.1, Nat.le_of_ble_eq_true hc.1.2, hc.2⟩]
    exact lc_ h
   ·cases h
  ·cases h
def pF (P : Program) (g : Nat → Option T) (op : Op) : Option T :=
 match op with
 | .build t parts => match aR_ P t with
  | some z => match gPs g parts.toList with
   | some ps => match okP P t with
    | true => match n2_ (fun i => match be_ P t i with | some (o, _, n) => some (o, n) | none => none) z ps with
     | some cs => foL cs fun cs => some (.agg cs)
     | none => none
    | false => none
   | none => none
  | none => none
 | .load t a => match gE g a with
  | some (.vw cs) => ia_ P t cs 0
  | _ => none
 | .field t x f => match gE g x with
  | some (.agg cs) => match be_ P t f with
   | some (off, ft, _) => ia_ P ft cs off
   | none => none
  | _ => none
 | .fieldAddr t x f => match gE g x with
  | some x => match be_ P t f with
   | some (off, _, n) => match x with
    | .ptr b e o m => match !Nat.beq n 0 && Nat.ble (off + n) m with
     | true => some (.ptr b e (o + off) n)
     | false => none
    | .vw cs => match n with
     | 0 => none
     | _ + 1 => match drL off cs with
      | some cs' => match tkL n cs' (fun _ => some ()) with
       | some _ => some (.vw cs')
       | none => none
      | none => none
    | _ => none
   | none => none
  | none => none
 | op => pOp P g op
theorem q5_ {P : Program} {g : Nat → Option T} {op : Op} {v : T} (h : pF P g op = some v) : pOp P g op = some v := by
 cases op with
 | build t parts =>
  simp only [pF] at h
  split at h
  ·rename_i z hz
   split at h
   ·rename_i ps hp
    split at h
    ·rename_i hk
     split at h
     ·rename_i cs hc
      rw [b8_] at h
      have e : (fun i => (be_ P t i).map fun (o, _, n) => (o, n)) = fun i => match be_ P t i with | some (o, _, n) => some (o, n) | none => none := by
       funext i; cases be_ P t i <;> rfl
      simp only [pOp, hz, hp, hk, e, lc_ hc]; exact h
     ·cases h
    ·cases h
   ·cases h
  ·cases h
 | load t a =>
  simp only [pF] at h
  split at h
  ·rename_i hc; simp only [pOp, hc]; exact kS_ h
  ·cases h
 | field t x f =>
  simp only [pF] at h
  split at h
  ·rename_i hc
   split at h
   ·rename_i hf; simp only [pOp, hc, hf]; exact kS_ h
   ·cases h
  ·cases h
 | fieldAddr t x f =>
  simp only [pF] at h
  split at h
  ·rename_i hx
   split at h
   ·rename_i hf
    simp only [pOp, hx, hf]
    split at h
    ·split at h
     ·rename_i hc
      simp only [Bool.and_eq_true, Bool.not_eq_true'] at hc
      show (if _ = 0 then none else if _ then _ else none) = _; rw [if_neg (fun (e : _ = 0) => by rw [e] at hc; simp at hc), if_pos (Nat.le_of_ble_eq_true hc.2)]; exact h
     ·cases h
    ·split at h
     ·cases h
     ·split at h
      ·rename_i cs' hd
       obtain ⟨h1, rfl⟩ := drL_some hd
       split at h
       ·rename_i u hu
        obtain ⟨h2, _⟩ := iI_ hu
        simp only [List.length_drop] at h2
        show (if _ = 0 then none else if _ then _ else none) = _; rw [if_neg (by omega), if_pos (by omega)]; exact h
       ·cases h
      ·cases h
    ·cases h
   ·cases h
  ·cases h
 | _ => exact h
def sg (P : Program) (ops : Array Oper) : Nat → List Oper → List (Nat × T) → Option (List (Nat × T) × List Oper)
 | 0, l, L => some (L, l)
 | _ + 1, [], _ => none
 | n + 1, o :: l, L => match want ops L o.guard with
  | some true => match pF P (get L) o.op with
   | some v => match o.dst with
    | some d => sg P ops n l ((d, v) :: L)
    | none => sg P ops n l L
   | none => none
  | some false => match o.dst with
   | some d => sg P ops n l ((d, .tup []) :: L)
   | none => sg P ops n l L
  | none => none
theorem ij_ {P : Program} {ops : Array Oper} : ∀ {n : Nat} {l : List Oper} {L : List (Nat × T)} {M : List (Nat × T)} {l' : List Oper}, sg P ops n l L = some (M, l') → seg P ops n l L = some M ∧ l' = l.drop n
 | 0, l, L, M, l', h => by injection h with h; injection h with h1 h2; subst h1; subst h2; exact ⟨rfl, rfl⟩
 | n + 1, [], L, M, l', h => by cases h
 | n + 1, o :: l, L, M, l', h => by
  simp only [sg] at h
  simp only [seg, List.drop_succ_cons]
  split at h
  ·rename_i hw
   split at h
   ·rename_i v hv
    simp only [hw, q5_ hv]
    split at h
    ·rename_i d hd; rw [hd]; exact ij_ h
    ·rename_i hd; rw [hd]; exact ij_ h
   ·cases h
  ·rename_i hw
   simp only [hw]
   split at h
   ·rename_i d hd; rw [hd]; exact ij_ h
   ·rename_i hd; rw [hd]; exact ij_ h
  ·cases h
def sgA (P : Program) (ops : Array Oper) : List Oper → List (Nat × T) → Option (List (Nat × T))
 | [], L => some L
 | o :: l, L => match want ops L o.guard with
  | some true => match pF P (get L) o.op with
   | some v => match o.dst with
    | some d => sgA P ops l ((d, v) :: L)
    | none => sgA P ops l L
   | none => none
  | some false => match o.dst with
   | some d => sgA P ops l ((d, .tup []) :: L)
   | none => sgA P ops l L
  | none => none
theorem hw_ {P : Program} {ops : Array Oper} : ∀ {l : List Oper} {L : List (Nat × T)} {M : List (Nat × T)}, sgA P ops l L = some M → seg P ops l.length l L = some M
 | [], L, M, h => by injection h with h; subst h; rfl
 | o :: l, L, M, h => by
  simp only [sgA] at h
  simp only [seg, List.length_cons]
  split at h
  ·rename_i hw
   split at h
   ·rename_i v hv
    simp only [hw, q5_ hv]
    split at h
    ·rename_i d hd; rw [hd]; exact hw_ h
    ·rename_i hd; rw [hd]; exact hw_ h
   ·cases h
  ·rename_i hw
   simp only [hw]
   split at h
   ·rename_i d hd; rw [hd]; exact hw_ h
   ·rename_i hd; rw [hd]; exact hw_ h
  ·cases h
section
variable {P : Program} {O : aH_} {ops : Array Oper} {m : Mo} {l l' : List Oper} {K : Fr → Prop} {σ0 : St} {L L' : List (Nat × T)} {es es' : List Ent} {p q : Prop} {G : Fr → Prop}
variable {Q : aG_ → Fr → Prop} {k k' : List Ct} {w w' : Wh} {s : Nat → T} {σ : St}
theorem t_bk (h : p) (hS : Sub L s) (hH : Heap σ0 σ es) (kk : Kn σ0 L es p G) : G ⟨s, σ⟩ := kk h s σ hS hH
theorem t_h (f : ∀ {σ}, Heap σ0 σ es → Heap σ0 σ es') (kk : Kn σ0 L es' p G) : Kn σ0 L es p G := fun h s σ hS hH => kk h s σ hS (f hH)
theorem t_U (n : Nat) (kk : Kn σ0 L' es p (opsX P O ops (nxN n m) l' K)) (h : sg P ops n l L = some (L', l') := by rfl) : Kn σ0 L es p (opsX P O ops m l K) := fun hp s σ hS hH => by
 obtain ⟨h1, rfl⟩ := ij_ h
 exact seg_sound h1 hS fun s' hM => kk hp s' σ hM hH
theorem t_N (kk : Kn σ0 L' es p (whQ P O w' k' Q)) (h : sgA P ops l L = some L' := by rfl) (h2 : nx 99 (.x .normal) k = some (w', k') := by rfl) : Kn σ0 L es p (opsX P O ops m l (popQ P O k Q .normal)) := fun hp s σ hS hH =>
 seg_sound (hw_ h) hS fun s' hM => by
  rw [List.drop_length]
  exact s2_ (nx_ok (w := .x .normal) h2 (kk hp s' σ hM hH))
theorem t_R {id : Nat} (kk : Kn σ0 L es p (opsX P O ops .q ops.toList (popQ P O k Q .normal))) : Kn σ0 L es p (whQ P O (.c (.region id ops false)) k Q) := kk
theorem t_RU {id : Nat} (n : Nat) (kk : Kn σ0 L' es p (opsX P O ops .q l' (popQ P O k Q .normal))) (h : sg P ops n ops.toList L = some (L', l') := by rfl) : Kn σ0 L es p (whQ P O (.c (.region id ops false)) k Q) := fun hp s σ hS hH => by
 obtain ⟨h1, rfl⟩ := ij_ h
 have e : ∀ n, nxN n Mo.q = .q := fun n => by induction n with
  | zero => rfl
  | succ n ih => exact ih
 exact seg_sound (m := .q) h1 hS fun s' hM => by rw [e]; exact kk hp s' σ hM hH
theorem t_RN {id : Nat} (kk : Kn σ0 L' es p (whQ P O w' k' Q)) (h : sgA P ops ops.toList L = some L' := by rfl) (h2 : nx 99 (.x .normal) k = some (w', k') := by rfl) : Kn σ0 L es p (whQ P O (.c (.region id ops false)) k Q) := t_R (t_N kk h h2)
theorem t_go {c : Code} (h : p) (hS : Sub L s) (hH : Heap σ0 σ es) (kk : Kn σ0 L es p (whQ P O w' k' Q)) (hn : nx 99 (.c c) [] = some (w', k') := by rfl) : codeQ P O c Q ⟨s, σ⟩ := nx_ok (w := .c c) (k := []) hn (kk h s σ hS hH)
theorem ff_ne : ¬ (false = true) := by simp
end
section
variable {P : Program} {O : aH_} {ops : Array Oper} {m : Mo} {l : List Oper} {K : Fr → Prop} {σ0 : St} {L L' : List (Nat × T)} {es es' : List Ent} {p q : Prop} {G : Fr → Prop} {γ : Type} {r : γ} {x y : Option γ}
variable {Q : aG_ → Fr → Prop} {k k1 k2 : List Ct} {w1 w2 : Wh} {c : Operand} {a b : Code} {t : Bool}
theorem t_if (h1 : t = true → Kn σ0 L es (x = some r) (whQ P O w1 k1 Q)) (h2 : ¬ (t = true) → Kn σ0 L es (y = some r) (whQ P O w2 k2 Q)) (hc : gE (get L) c = some (.bool t) := by rfl) (e1 : nx 99 (.c a) k = some (w1, k1) := by rfl) (e2 : nx 99 (.c b) k = some (w2, k2) := by rfl) : Kn σ0 L es ((if t = true then x else y) = some r) (whQ P O (.c (.cond c a b)) k Q) := fun hp s σ hS hH =>
 kU_ hS hc (fun h => nx_ok (w := .c a) e1 (h1 h (oo_ h hp) s σ hS hH)) (fun h => have h : ¬ (t = true) := by simp [h]
  nx_ok (w := .c b) e2 (h2 h (oi_ h hp) s σ hS hH))
theorem t_cT (h : t = true) (kk : Kn σ0 L es p (whQ P O w1 k1 Q)) (hc : gE (get L) c = some (.bool t) := by rfl) (e1 : nx 99 (.c a) k = some (w1, k1) := by rfl) : Kn σ0 L es p (whQ P O (.c (.cond c a b)) k Q) := fun hp s σ hS hH =>
 c_cT h hS hc (nx_ok (w := .c a) e1 (kk hp s σ hS hH))
theorem t_cF (h : ¬ (t = true)) (kk : Kn σ0 L es p (whQ P O w1 k1 Q)) (hc : gE (get L) c = some (.bool t) := by rfl) (e1 : nx 99 (.c b) k = some (w1, k1) := by rfl) : Kn σ0 L es p (whQ P O (.c (.cond c a b)) k Q) := fun hp s σ hS hH =>
 c_cF h hS hc (nx_ok (w := .c b) e1 (kk hp s σ hS hH))
theorem aK_ (d : Nat) (h1 : t = true → Kn σ0 ((d, .bool true) :: L) es (x = some r) G) (h2 : ¬ (t = true) → Kn σ0 ((d, .bool false) :: L) es (y = some r) G) (hc : get L d = some (.bool t) := by rfl) : Kn σ0 L es ((if t = true then x else y) = some r) G := fun hp s σ hS hH => by
 have e := hS d _ hc
 by_cases h : t = true
 ·exact h1 h (oo_ h hp) s σ (g7_ hS (by rw [e, h])) hH
 ·exact h2 h (oi_ h hp) s σ (g7_ hS (by rw [e]; simp at h; rw [h])) hH
theorem t_gT (d : Nat) (h : t = true) (kk : Kn σ0 ((d, .bool true) :: L) es p G) (hc : get L d = some (.bool t) := by rfl) : Kn σ0 L es p G := fun hp s σ hS hH => kk hp s σ (g7_ hS (by rw [hS d _ hc, h])) hH
theorem t_gF (d : Nat) (h : ¬ (t = true)) (kk : Kn σ0 ((d, .bool false) :: L) es p G) (hc : get L d = some (.bool t) := by rfl) : Kn σ0 L es p G := fun hp s σ hS hH => kk hp s σ (g7_ hS (by rw [hS d _ hc]; simp at h; rw [h])) hH
theorem t_no : Kn σ0 L es ((none : Option γ) = some r) G := fun h => by cases h
end
end Go.Am
end
