/- The law. -/
import Derived.Test.YtfnjieagnkmceaaAm5
import Derived.Test.YtfnjieagnkmceaaAg2
import Derived.Test.YtfnjieagnkmceaaAg1
import Derived.Test.YtfnjieagnkmceaaAg3
import Derived.Test.YtfnjieagnkmceaaAg6
import Derived.Test.YtfnjieagnkmceaaAg0
import Derived.Test.YtfnjieagnkmceaaAg5
section
set_option maxRecDepth 100000
set_option maxHeartbeats 1000000
set_option linter.unusedVariables false
set_option linter.unusedSimpArgs false
namespace Go.Am
/-! what fits -/
def FitStr (s : ByteArray) : Prop := s.size ≤ maxLen
def FitValue (x : DValue) : Prop := FitStr x.Text
def SmValue (x : DValue) : Prop := x.Text.size ≤ 1048576
def LenValue (x : DValue) : Prop := True
theorem SmValue_Len {x : DValue} (h : SmValue x) : LenValue x := trivial
def FitObject (x : DObject) : Prop := FitStr x.Name ∧ FitS maxLen FitValue x.Keys ∧ FitS maxLen FitValue x.Vals ∧ FitValue x.Default
def SmObject (x : DObject) : Prop := x.Name.size ≤ 1048576 ∧ FitS 1048576 SmValue x.Keys ∧ FitS 1048576 SmValue x.Vals ∧ SmValue x.Default
def LenObject (x : DObject) : Prop := (x.Keys.l.length ≤ 1048577 ∧ ∀ e ∈ x.Keys.l, LenValue e) ∧ (x.Vals.l.length ≤ 1048577 ∧ ∀ e ∈ x.Vals.l, LenValue e) ∧ LenValue x.Default
theorem SmObject_Len {x : DObject} (h : SmObject x) : LenObject x := ⟨⟨by have := h.2.1.1; omega, fun e he => SmValue_Len (h.2.1.2 e he)⟩, ⟨by have := h.2.2.1.1; omega, fun e he => SmValue_Len (h.2.2.1.2 e he)⟩, SmValue_Len h.2.2.2⟩
def FitHeap (x : DHeap) : Prop := FitS maxLen FitObject x.Objects
def SmHeap (x : DHeap) : Prop := FitS 1048576 SmObject x.Objects
def LenHeap (x : DHeap) : Prop := (x.Objects.l.length ≤ 1048577 ∧ ∀ e ∈ x.Objects.l, LenObject e)
theorem SmHeap_Len {x : DHeap} (h : SmHeap x) : LenHeap x := ⟨by have := h.1; omega, fun e he => SmObject_Len (h.2 e he)⟩
/-! sizes -/
theorem sz_Value (x : DValue) (h : FitValue x) (l : Int) (h0 : 0 ≤ l) (h1 : l ≤ 1048576) : SzOk (F_laws_szValue x l) l (SmValue x) := by
  refine sz_u (u_laws_szValue x l) ?_
  unfold B_laws_szValue
  have hm := maxLen_eq
  have hb0 : x.Text.size ≤ maxLen := h
  rw [hm] at hb0
  try rw [wrap_id (n := l - (x.Text.size : Int)) (by omega) (by omega)]
  refine sz_if (by omega) fun n0 => ?_
  exact sz_end (by omega) (show x.Text.size ≤ 1048576 by omega)
theorem sz_ValueS (s : Sl DValue) (h : FitS maxLen FitValue s) (l : Int) (h0 : 0 ≤ l) (h1 : l ≤ 1048576) : SzOk (F_laws_szValueS s l) l (FitS 1048576 SmValue s) := by
  refine sz_u (u_laws_szValueS s l) ?_
  unfold B_laws_szValueS
  have hm := maxLen_eq; have hlen := h.1
  exact slice_sz h0 h1 h.1 (fun i x l' hx hi he q1 q2 => sz_step (by omega) he (sz_Value x (h.2 x hx) l' q1 (by omega)) (by omega)) (fun l' => by rw [if_neg (by simp)])
theorem sz_Object (x : DObject) (h : FitObject x) (l : Int) (h0 : 0 ≤ l) (h1 : l ≤ 1048576) : SzOk (F_laws_szObject x l) l (SmObject x) := by
  refine sz_u (u_laws_szObject x l) ?_
  unfold B_laws_szObject
  have hm := maxLen_eq
  have hb0 : x.Name.size ≤ maxLen := h.1
  rw [hm] at hb0
  try rw [wrap_id (n := l - (x.Name.size : Int)) (by omega) (by omega)]
  refine sz_if (by omega) fun n0 => ?_
  refine sz_bind (sz_ValueS x.Keys h.2.1 (l - (x.Name.size : Int)) (by omega) (by omega)) fun l1 q1 r1 p1 => ?_
  try dsimp only
  refine sz_bind (sz_ValueS x.Vals h.2.2.1 l1 (by omega) (by omega)) fun l2 q2 r2 p2 => ?_
  try dsimp only
  refine sz_bind (sz_Value x.Default h.2.2.2 l2 (by omega) (by omega)) fun l3 q3 r3 p3 => ?_
  try dsimp only
  exact sz_end (by omega) ⟨(show x.Name.size ≤ 1048576 by omega), p1, p2, p3⟩
theorem sz_ObjectS (s : Sl DObject) (h : FitS maxLen FitObject s) (l : Int) (h0 : 0 ≤ l) (h1 : l ≤ 1048576) : SzOk (F_laws_szObjectS s l) l (FitS 1048576 SmObject s) := by
  refine sz_u (u_laws_szObjectS s l) ?_
  unfold B_laws_szObjectS
  have hm := maxLen_eq; have hlen := h.1
  exact slice_sz h0 h1 h.1 (fun i x l' hx hi he q1 q2 => sz_step (by omega) he (sz_Object x (h.2 x hx) l' q1 (by omega)) (by omega)) (fun l' => by rw [if_neg (by simp)])
theorem sz_Heap (x : DHeap) (h : FitHeap x) (l : Int) (h0 : 0 ≤ l) (h1 : l ≤ 1048576) : SzOk (F_laws_szHeap x l) l (SmHeap x) := by
  refine sz_u (u_laws_szHeap x l) ?_
  unfold B_laws_szHeap
  have hm := maxLen_eq
  refine sz_bind (sz_ObjectS x.Objects h l (by omega) (by omega)) fun l0 q0 r0 p0 => ?_
  try dsimp only
  exact sz_end (by omega) p0
/-! copies -/
def cpValue (x : DValue) : DValue := ⟨x.Kind, x.Num, x.Text, x.Ref⟩
theorem to_Value (x : DValue) (h : SmValue x) : F_laws_toValue x = some (cpValue x) := by
  refine u_laws_toValue x _ ?_
  unfold B_laws_toValue
  rfl
theorem Sm_cpValue {x : DValue} (h : SmValue x) : SmValue (cpValue x) := h
theorem to_ValueS (s : Sl DValue) (h : FitS 1048576 SmValue s) : F_laws_toValueS s = some ⟨false, s.l.map cpValue⟩ := by
  refine u_laws_toValueS s _ ?_
  unfold B_laws_toValueS
  have hl := h.1
  refine loop_map cpValue hl (by omega) (fun i x t hx hi hit he => ?_) (fun t => by rw [if_neg (by simp)])
  show (if decide ((i : Int) < (s.l.length : Int)) = true then _ else _) = _
  rw [if_pos (by simpa using hi), he]
  simp only [Option.bind_some]
  rw [to_Value x (h.2 x hx)]
  simp only [Option.bind_some]
  rw [elt_lt hit, wrapB (by omega) (by omega)]; rfl
def cpObject (x : DObject) : DObject := ⟨x.Id, x.Kind, x.Name, x.Low, ⟨false, x.Keys.l.map cpValue⟩, ⟨false, x.Vals.l.map cpValue⟩, cpValue x.Default⟩
theorem to_Object (x : DObject) (h : SmObject x) : F_laws_toObject x = some (cpObject x) := by
  refine u_laws_toObject x _ ?_
  unfold B_laws_toObject
  rw [to_ValueS _ h.2.1, Option.bind_some, to_ValueS _ h.2.2.1, Option.bind_some, to_Value _ h.2.2.2, Option.bind_some]; rfl
theorem Sm_cpObject {x : DObject} (h : SmObject x) : SmObject (cpObject x) := ⟨h.1, ⟨by have := h.2.1.1; simpa [cpObject] using this, fun y hy => by simp only [cpObject, List.mem_map] at hy; obtain ⟨z, hz, rfl⟩ := hy; exact Sm_cpValue (h.2.1.2 z hz)⟩, ⟨by have := h.2.2.1.1; simpa [cpObject] using this, fun y hy => by simp only [cpObject, List.mem_map] at hy; obtain ⟨z, hz, rfl⟩ := hy; exact Sm_cpValue (h.2.2.1.2 z hz)⟩, Sm_cpValue h.2.2.2⟩
theorem to_ObjectS (s : Sl DObject) (h : FitS 1048576 SmObject s) : F_laws_toObjectS s = some ⟨false, s.l.map cpObject⟩ := by
  refine u_laws_toObjectS s _ ?_
  unfold B_laws_toObjectS
  have hl := h.1
  refine loop_map cpObject hl (by omega) (fun i x t hx hi hit he => ?_) (fun t => by rw [if_neg (by simp)])
  show (if decide ((i : Int) < (s.l.length : Int)) = true then _ else _) = _
  rw [if_pos (by simpa using hi), he]
  simp only [Option.bind_some]
  rw [to_Object x (h.2 x hx)]
  simp only [Option.bind_some]
  rw [elt_lt hit, wrapB (by omega) (by omega)]; rfl
def cpHeap (x : DHeap) : DHeap := ⟨x.Next, ⟨false, x.Objects.l.map cpObject⟩⟩
theorem to_Heap (x : DHeap) (h : SmHeap x) : F_laws_toHeap x = some (cpHeap x) := by
  refine u_laws_toHeap x _ ?_
  unfold B_laws_toHeap
  rw [to_ObjectS _ h, Option.bind_some]; rfl
theorem Sm_cpHeap {x : DHeap} (h : SmHeap x) : SmHeap (cpHeap x) := ⟨by have := h.1; simpa [cpHeap] using this, fun y hy => by simp only [cpHeap, List.mem_map] at hy; obtain ⟨z, hz, rfl⟩ := hy; exact Sm_cpObject (h.2 z hz)⟩
/-! comparisons of what is the same but for nil -/
theorem loop_refl2 {α : Type} {a b : Sl α} {bd : Int → Option (Int ⊕ (Unit ⊕ Bool))} (hl : a.l.length = b.l.length) (hn : a.l.length < 9223372036854775807) (h : ∀ (i : Nat) x y, a.l[i]? = some x → b.l[i]? = some y → elt a (i : Int) = some x → elt b (i : Int) = some y → bd i = some (.inl (IntKind.i64.wrap ((i : Int) + 1)))) :
    (if (!decide ((a.l.length : Int) = (b.l.length : Int))) = true then some false else ((loopO (S := Int) (R := Unit ⊕ Bool) (fun st1 : Int => if decide (st1 < (a.l.length : Int)) = true then bd st1 else some (.inr (.inl ()))) 0).bind fun y => Sum.elim (fun _ => some true) (fun y => some y) y)) = some true := by
  rw [if_neg (by simp [hl])]
  have := (loop_all (R := Unit ⊕ Bool) (n := a.l.length) (p := fun _ => True) (bd := bd) (x := .inl ()) (y := .inl ()) 0 hn (fun i _ hi _ => h i _ _ (List.getElem?_eq_getElem hi) (List.getElem?_eq_getElem (by omega)) (elt_lt hi) (elt_lt (by omega))) (fun i _ _ hw => absurd trivial hw)).1 (fun _ _ _ => trivial)
  have e : loopO (S := Int) (R := (Unit ⊕ Bool)) _ 0 = _ := this
  rw [e]; rfl
def EqvValue (x y : DValue) : Prop := x.Kind = y.Kind ∧ x.Num = y.Num ∧ x.Text = y.Text ∧ x.Ref = y.Ref
theorem EqvValue_rfl {x : DValue} : EqvValue x x := ⟨rfl, rfl, rfl, rfl⟩
theorem eq2_Value (x y : DValue) (h : LenValue x) (q : EqvValue x y) : F_laws_eqValue x y = some true := by
  refine u_laws_eqValue x y _ ?_
  unfold B_laws_eqValue
  rw [if_neg (by simp [q.1]), if_neg (by simp [q.2.1]), if_neg (by simp [q.2.2.1]), if_neg (by simp [q.2.2.2])]
theorem eq_Value (x : DValue) (h : LenValue x) : F_laws_eqValue x x = some true := eq2_Value x x h EqvValue_rfl
theorem eq2_ValueS (s t : Sl DValue) (h : s.l.length ≤ 1048577 ∧ ∀ e ∈ s.l, LenValue e) (hq : s.l = t.l) : F_laws_eqValueS s t = some true := by
  refine u_laws_eqValueS s t _ ?_
  unfold B_laws_eqValueS
  have hl : s.l.length = t.l.length := by rw [hq]
  have hlen := h.1
  refine loop_refl2 hl (by omega) fun i x y hx hy he he2 => ?_
  rw [he, Option.bind_some, he2]
  simp only [Option.bind_some]
  rw [eq2_Value x y (h.2 x (List.mem_of_getElem? hx)) (by rw [hq] at hx; rw [hx] at hy; injection hy with hy; subst hy; exact EqvValue_rfl), Option.bind_some, if_neg (by simp)]
def EqvObject (x y : DObject) : Prop := x.Id = y.Id ∧ x.Kind = y.Kind ∧ x.Name = y.Name ∧ x.Low = y.Low ∧ x.Keys.l = y.Keys.l ∧ x.Vals.l = y.Vals.l ∧ EqvValue x.Default y.Default
theorem EqvObject_rfl {x : DObject} : EqvObject x x := ⟨rfl, rfl, rfl, rfl, rfl, rfl, EqvValue_rfl⟩
theorem eq2_Object (x y : DObject) (h : LenObject x) (q : EqvObject x y) : F_laws_eqObject x y = some true := by
  refine u_laws_eqObject x y _ ?_
  unfold B_laws_eqObject
  rw [if_neg (by simp [q.1]), if_neg (by simp [q.2.1]), if_neg (by simp [q.2.2.1]), if_neg (by simp [q.2.2.2.1]), eq2_ValueS _ _ h.1 q.2.2.2.2.1, Option.bind_some, if_neg (by simp), eq2_ValueS _ _ h.2.1 q.2.2.2.2.2.1, Option.bind_some, if_neg (by simp), eq2_Value _ _ h.2.2 q.2.2.2.2.2.2, Option.bind_some, if_neg (by simp)]
theorem eq_Object (x : DObject) (h : LenObject x) : F_laws_eqObject x x = some true := eq2_Object x x h EqvObject_rfl
theorem eq2_ObjectS (s t : Sl DObject) (h : s.l.length ≤ 1048577 ∧ ∀ e ∈ s.l, LenObject e) (hl : s.l.length = t.l.length) (hq : ∀ (i : Nat) x y, s.l[i]? = some x → t.l[i]? = some y → EqvObject x y) : F_laws_eqObjectS s t = some true := by
  refine u_laws_eqObjectS s t _ ?_
  unfold B_laws_eqObjectS
  have hlen := h.1
  refine loop_refl2 hl (by omega) fun i x y hx hy he he2 => ?_
  rw [he, Option.bind_some, he2]
  simp only [Option.bind_some]
  rw [eq2_Object x y (h.2 x (List.mem_of_getElem? hx)) (hq i x y hx hy), Option.bind_some, if_neg (by simp)]
def EqvHeap (x y : DHeap) : Prop := x.Next = y.Next ∧ (x.Objects.l.length = y.Objects.l.length ∧ ∀ (i : Nat) u v, x.Objects.l[i]? = some u → y.Objects.l[i]? = some v → EqvObject u v)
theorem EqvHeap_rfl {x : DHeap} : EqvHeap x x := ⟨rfl, ⟨rfl, fun i a b ha hb => by rw [ha] at hb; injection hb with hb; subst hb; exact EqvObject_rfl⟩⟩
theorem eq2_Heap (x y : DHeap) (h : LenHeap x) (q : EqvHeap x y) : F_laws_eqHeap x y = some true := by
  refine u_laws_eqHeap x y _ ?_
  unfold B_laws_eqHeap
  rw [if_neg (by simp [q.1]), eq2_ObjectS _ _ h q.2.1 q.2.2, Option.bind_some, if_neg (by simp)]
theorem eq_Heap (x : DHeap) (h : LenHeap x) : F_laws_eqHeap x x = some true := eq2_Heap x x h EqvHeap_rfl
/-! marks -/
theorem markText_ok (k : Int) (h0 : 0 ≤ k) (h1 : k ≤ 4611686018427387904) : ∃ t, F_laws_markText k = some t := by
  suffices h : ∃ t, B_laws_markText k = some t from by obtain ⟨t, h⟩ := h; exact ⟨t, u_laws_markText k t h⟩
  unfold B_laws_markText
  by_cases hk : k ≤ 0
  · rw [if_pos (by simpa using hk)]; exact ⟨_, rfl⟩
  · rw [if_neg (by simpa using hk)]
    suffices H : ∀ (m : Nat) (k : Int) (t : ByteArray), 0 ≤ k → k.toNat ≤ m → k ≤ 4611686018427387904 → t.size + k.toNat ≤ 5000000000000000000 → ∃ r : ByteArray, r.size ≤ 5000000000000000000 ∧ loopO (S := (Int × ByteArray)) (R := ByteArray) (fun st1 => (if (decide (0 < st1.1)) = true then ((strS ((⟨false, [⟨(IntKind.u8.wrap (IntKind.i64.wrap (48 + (st1.1.tmod 10))))⟩]⟩ : Sl (Iv .u8)))).bind fun y2 => ((catB y2 st1.2).bind fun y3 => (some (.inl ((IntKind.i64.wrap (st1.1.tdiv 10)), y3))))) else (some (.inr st1.2)))) (k, t) = some r by
      obtain ⟨r, hr, e⟩ := H k.toNat k ⟨#[]⟩ h0 (Nat.le_refl _) h1 (by show 0 + k.toNat ≤ _; omega)
      rw [e, Option.bind_some]
      have : catB ⟨#[109]⟩ r = some (⟨#[109]⟩ ++ r) := by
        unfold catB; rw [if_pos (by show 1 + r.size ≤ _; omega)]
      exact ⟨_, by rw [this]; rfl⟩
    intro m
    induction m with
    | zero =>
      intro k t h0 hm h1 ht
      refine ⟨t, by omega, loopO_stop ?_⟩
      show (if decide (0 < k) = true then _ else _) = _
      rw [if_neg (by simp; omega)]
    | succ m ih =>
      intro k t h0 hm h1 ht
      by_cases hk : 0 < k
      · have hd : k.tdiv 10 = k / 10 := by rw [Int.tdiv_eq_ediv_of_nonneg h0]
        have hmod : k.tmod 10 = k % 10 := Int.tmod_eq_emod_of_nonneg h0
        have hq := Int.ediv_lt_self_of_pos_of_ne_one (by omega : 0 < k) (by omega : (10 : Int) ≠ 1)
        have hq0 : 0 ≤ k / 10 := Int.ediv_nonneg h0 (by omega)
        have hw : IntKind.u8.wrap (IntKind.i64.wrap (48 + k % 10)) = 48 + k % 10 := by
          rw [wrapB (by omega) (by omega)]
          simp only [IntKind.wrap, IntKind.signed, IntKind.bits]; simp; omega
        have hs : strS (⟨false, [⟨48 + k % 10⟩]⟩ : Sl (Iv .u8)) = some ⟨#[UInt8.ofNat (48 + k % 10).toNat]⟩ := by
          simp only [strS, ofIv]; rw [if_pos ⟨by omega, by omega⟩]; rfl
        have hc : catB (⟨#[UInt8.ofNat (48 + k % 10).toNat]⟩ : ByteArray) t = some (⟨#[UInt8.ofNat (48 + k % 10).toNat]⟩ ++ t) := by
          unfold catB; rw [if_pos (by show 1 + t.size ≤ _; omega)]
        have hsz : ((⟨#[UInt8.ofNat (48 + k % 10).toNat]⟩ : ByteArray) ++ t).size = 1 + t.size := by
          rw [ByteArray.size_append]; rfl
        obtain ⟨r, hr, e⟩ := ih (k / 10) (⟨#[UInt8.ofNat (48 + k % 10).toNat]⟩ ++ t) hq0 (by omega) (by omega) (by rw [hsz]; omega)
        refine ⟨r, hr, loopO_go ?_ e⟩
        show (if decide (0 < k) = true then _ else _) = _
        rw [if_pos (by simpa using hk), hmod, hw, hs, Option.bind_some, hc, Option.bind_some, hd, wrapB hq0 (by omega)]
      · refine ⟨t, by omega, loopO_stop ?_⟩
        show (if decide (0 < k) = true then _ else _) = _
        rw [if_neg (by simpa using hk)]
theorem mh_ValueS (s : Sl DValue) (h : s.l.length ≤ 1048577 ∧ ∀ e ∈ s.l, LenValue e) : MH B_laws_markValueS F_laws_heldValueS 4194308 s := by
  have hl := h.1
  intro k h0 h1
  obtain ⟨k', t', q1, q2, q3, q4, q5⟩ := loop_mh (P := LenValue) (N := 4) (s := s) (mb := fun st1 => (if (decide (st1.2.1 < (st1.2.2.l.length : Int))) = true then ((elt st1.2.2 st1.2.1).bind fun y2 => ((elt (setS st1.2.2 st1.2.1 ((⟨st1.1, y2.Num, y2.Text, y2.Ref⟩ : DValue) : DValue)) st1.2.1).bind fun y3 => ((F_laws_markText (IntKind.i64.wrap ((IntKind.i64.wrap (st1.1 + 1)) + 1))).bind fun y4 => ((elt ((setS (setS st1.2.2 st1.2.1 ((⟨st1.1, y2.Num, y2.Text, y2.Ref⟩ : DValue) : DValue)) st1.2.1 ((⟨y3.Kind, (IntKind.i64.wrap (st1.1 + 1)), y3.Text, y3.Ref⟩ : DValue) : DValue))) st1.2.1).bind fun y5 => ((elt ((setS ((setS (setS st1.2.2 st1.2.1 ((⟨st1.1, y2.Num, y2.Text, y2.Ref⟩ : DValue) : DValue)) st1.2.1 ((⟨y3.Kind, (IntKind.i64.wrap (st1.1 + 1)), y3.Text, y3.Ref⟩ : DValue) : DValue))) st1.2.1 ((⟨y5.Kind, y5.Num, y4, y5.Ref⟩ : DValue) : DValue))) st1.2.1).bind fun y6 => (some (.inl ((IntKind.i64.wrap ((IntKind.i64.wrap ((IntKind.i64.wrap ((IntKind.i64.wrap (st1.1 + 1)) + 1)) + 1)) + 1)), (IntKind.i64.wrap (st1.2.1 + 1)), (setS ((setS ((setS (setS st1.2.2 st1.2.1 ((⟨st1.1, y2.Num, y2.Text, y2.Ref⟩ : DValue) : DValue)) st1.2.1 ((⟨y3.Kind, (IntKind.i64.wrap (st1.1 + 1)), y3.Text, y3.Ref⟩ : DValue) : DValue))) st1.2.1 ((⟨y5.Kind, y5.Num, y4, y5.Ref⟩ : DValue) : DValue))) st1.2.1 ((⟨y6.Kind, y6.Num, y6.Text, (IntKind.i64.wrap ((IntKind.i64.wrap ((IntKind.i64.wrap (st1.1 + 1)) + 1)) + 1))⟩ : DValue) : DValue)))))))))) else (some (.inr (st1.1, st1.2.2)))))
    (hb := fun a0 => fun st1 => (if (decide (st1.2 < (a0.l.length : Int))) = true then ((elt a0 st1.2).bind fun y2 => (if (!decide (y2.Kind = st1.1)) = true then (some (.inr (.inr (-1)))) else ((elt a0 st1.2).bind fun y3 => (if (!decide (y3.Num = (IntKind.i64.wrap (st1.1 + 1)))) = true then (some (.inr (.inr (-1)))) else ((elt a0 st1.2).bind fun y4 => ((F_laws_markText (IntKind.i64.wrap ((IntKind.i64.wrap (st1.1 + 1)) + 1))).bind fun y5 => (if (!decide (y4.Text = y5)) = true then (some (.inr (.inr (-1)))) else ((elt a0 st1.2).bind fun y6 => (if (!decide (y6.Ref = (IntKind.i64.wrap ((IntKind.i64.wrap ((IntKind.i64.wrap (st1.1 + 1)) + 1)) + 1)))) = true then (some (.inr (.inr (-1)))) else (some (.inl ((IntKind.i64.wrap ((IntKind.i64.wrap ((IntKind.i64.wrap ((IntKind.i64.wrap (st1.1 + 1)) + 1)) + 1)) + 1)), (IntKind.i64.wrap (st1.2 + 1)))))))))))))) else (some (.inr (.inl st1.1)))))
    h.2 h0 (by omega) (by omega) (fun k i t x hx hi ht hP h0 h1 => by
      have WI : IntKind.i64.wrap ((i : Int) + 1) = (i : Int) + 1 := wrapB (by omega) (by omega)
      have W0 : IntKind.i64.wrap (k + 1) = k + 1 := wrapB (by omega) (by omega)
      have W1 : IntKind.i64.wrap (k + 1 + 1) = k + 1 + 1 := wrapB (by omega) (by omega)
      obtain ⟨w2, hw2⟩ := markText_ok (k + 1 + 1) (by omega) (by omega)
      have W2 : IntKind.i64.wrap (k + 1 + 1 + 1) = k + 1 + 1 + 1 := wrapB (by omega) (by omega)
      have W3 : IntKind.i64.wrap (k + 1 + 1 + 1 + 1) = k + 1 + 1 + 1 + 1 := wrapB (by omega) (by omega)
      refine ⟨k + 1 + 1 + 1 + 1, ⟨k, k + 1, w2, k + 1 + 1 + 1⟩, ?_, by omega, by omega, fun t' ht' he hi' => ?_⟩
      · show (if decide ((i : Int) < (t.l.length : Int)) = true then _ else _) = _
        rw [if_pos (by simpa using hi)]
        simp only [hx, Option.bind_some, set_set', elt_set hi, WI, W0, W1, hw2, W2, W3]
      · show (if decide ((i : Int) < (t'.l.length : Int)) = true then _ else _) = _
        rw [if_pos (by simpa using hi')]
        simp only [he, Option.bind_some, WI, W0, W1, hw2, W2, W3, eq_self, decide_true, Bool.not_true, Bool.false_eq_true, if_false])
    (fun k t => by rw [if_neg (by simp)]) (fun k t => by rw [if_neg (by simp)])
  refine ⟨k', t', ?_, u_laws_heldValueS t' k k' ?_, q4, by omega⟩
  · unfold B_laws_markValueS; rw [q1]; rfl
  · unfold B_laws_heldValueS; rw [q3]; rfl
theorem mh_ObjectS (s : Sl DObject) (h : s.l.length ≤ 1048577 ∧ ∀ e ∈ s.l, LenObject e) : MH B_laws_markObjectS F_laws_heldObjectS 8796118188048 s := by
  have hl := h.1
  intro k h0 h1
  obtain ⟨k', t', q1, q2, q3, q4, q5⟩ := loop_mh (P := LenObject) (N := 8388624) (s := s) (mb := fun st1 => (if (decide (st1.2.1 < (st1.2.2.l.length : Int))) = true then ((elt st1.2.2 st1.2.1).bind fun y2 => ((elt (setS st1.2.2 st1.2.1 ((⟨st1.1, y2.Kind, y2.Name, y2.Low, y2.Keys, y2.Vals, y2.Default⟩ : DObject) : DObject)) st1.2.1).bind fun y3 => ((F_laws_markText (IntKind.i64.wrap ((IntKind.i64.wrap (st1.1 + 1)) + 1))).bind fun y4 => ((elt ((setS (setS st1.2.2 st1.2.1 ((⟨st1.1, y2.Kind, y2.Name, y2.Low, y2.Keys, y2.Vals, y2.Default⟩ : DObject) : DObject)) st1.2.1 ((⟨y3.Id, (IntKind.i64.wrap (st1.1 + 1)), y3.Name, y3.Low, y3.Keys, y3.Vals, y3.Default⟩ : DObject) : DObject))) st1.2.1).bind fun y5 => ((elt ((setS ((setS (setS st1.2.2 st1.2.1 ((⟨st1.1, y2.Kind, y2.Name, y2.Low, y2.Keys, y2.Vals, y2.Default⟩ : DObject) : DObject)) st1.2.1 ((⟨y3.Id, (IntKind.i64.wrap (st1.1 + 1)), y3.Name, y3.Low, y3.Keys, y3.Vals, y3.Default⟩ : DObject) : DObject))) st1.2.1 ((⟨y5.Id, y5.Kind, y4, y5.Low, y5.Keys, y5.Vals, y5.Default⟩ : DObject) : DObject))) st1.2.1).bind fun y6 => ((elt ((setS ((setS ((setS (setS st1.2.2 st1.2.1 ((⟨st1.1, y2.Kind, y2.Name, y2.Low, y2.Keys, y2.Vals, y2.Default⟩ : DObject) : DObject)) st1.2.1 ((⟨y3.Id, (IntKind.i64.wrap (st1.1 + 1)), y3.Name, y3.Low, y3.Keys, y3.Vals, y3.Default⟩ : DObject) : DObject))) st1.2.1 ((⟨y5.Id, y5.Kind, y4, y5.Low, y5.Keys, y5.Vals, y5.Default⟩ : DObject) : DObject))) st1.2.1 ((⟨y6.Id, y6.Kind, y6.Name, (IntKind.i64.wrap ((IntKind.i64.wrap ((IntKind.i64.wrap (st1.1 + 1)) + 1)) + 1)), y6.Keys, y6.Vals, y6.Default⟩ : DObject) : DObject))) st1.2.1).bind fun y7 => ((B_laws_markValueS y7.Keys (IntKind.i64.wrap ((IntKind.i64.wrap ((IntKind.i64.wrap ((IntKind.i64.wrap (st1.1 + 1)) + 1)) + 1)) + 1))).bind fun y8 => ((elt ((setS ((setS ((setS ((setS (setS st1.2.2 st1.2.1 ((⟨st1.1, y2.Kind, y2.Name, y2.Low, y2.Keys, y2.Vals, y2.Default⟩ : DObject) : DObject)) st1.2.1 ((⟨y3.Id, (IntKind.i64.wrap (st1.1 + 1)), y3.Name, y3.Low, y3.Keys, y3.Vals, y3.Default⟩ : DObject) : DObject))) st1.2.1 ((⟨y5.Id, y5.Kind, y4, y5.Low, y5.Keys, y5.Vals, y5.Default⟩ : DObject) : DObject))) st1.2.1 ((⟨y6.Id, y6.Kind, y6.Name, (IntKind.i64.wrap ((IntKind.i64.wrap ((IntKind.i64.wrap (st1.1 + 1)) + 1)) + 1)), y6.Keys, y6.Vals, y6.Default⟩ : DObject) : DObject))) st1.2.1 ((⟨y7.Id, y7.Kind, y7.Name, y7.Low, y8.2, y7.Vals, y7.Default⟩ : DObject) : DObject))) st1.2.1).bind fun y9 => ((B_laws_markValueS y9.Vals y8.1).bind fun y10 => ((elt ((setS ((setS ((setS ((setS ((setS (setS st1.2.2 st1.2.1 ((⟨st1.1, y2.Kind, y2.Name, y2.Low, y2.Keys, y2.Vals, y2.Default⟩ : DObject) : DObject)) st1.2.1 ((⟨y3.Id, (IntKind.i64.wrap (st1.1 + 1)), y3.Name, y3.Low, y3.Keys, y3.Vals, y3.Default⟩ : DObject) : DObject))) st1.2.1 ((⟨y5.Id, y5.Kind, y4, y5.Low, y5.Keys, y5.Vals, y5.Default⟩ : DObject) : DObject))) st1.2.1 ((⟨y6.Id, y6.Kind, y6.Name, (IntKind.i64.wrap ((IntKind.i64.wrap ((IntKind.i64.wrap (st1.1 + 1)) + 1)) + 1)), y6.Keys, y6.Vals, y6.Default⟩ : DObject) : DObject))) st1.2.1 ((⟨y7.Id, y7.Kind, y7.Name, y7.Low, y8.2, y7.Vals, y7.Default⟩ : DObject) : DObject))) st1.2.1 ((⟨y9.Id, y9.Kind, y9.Name, y9.Low, y9.Keys, y10.2, y9.Default⟩ : DObject) : DObject))) st1.2.1).bind fun y11 => ((elt ((setS ((setS ((setS ((setS ((setS ((setS (setS st1.2.2 st1.2.1 ((⟨st1.1, y2.Kind, y2.Name, y2.Low, y2.Keys, y2.Vals, y2.Default⟩ : DObject) : DObject)) st1.2.1 ((⟨y3.Id, (IntKind.i64.wrap (st1.1 + 1)), y3.Name, y3.Low, y3.Keys, y3.Vals, y3.Default⟩ : DObject) : DObject))) st1.2.1 ((⟨y5.Id, y5.Kind, y4, y5.Low, y5.Keys, y5.Vals, y5.Default⟩ : DObject) : DObject))) st1.2.1 ((⟨y6.Id, y6.Kind, y6.Name, (IntKind.i64.wrap ((IntKind.i64.wrap ((IntKind.i64.wrap (st1.1 + 1)) + 1)) + 1)), y6.Keys, y6.Vals, y6.Default⟩ : DObject) : DObject))) st1.2.1 ((⟨y7.Id, y7.Kind, y7.Name, y7.Low, y8.2, y7.Vals, y7.Default⟩ : DObject) : DObject))) st1.2.1 ((⟨y9.Id, y9.Kind, y9.Name, y9.Low, y9.Keys, y10.2, y9.Default⟩ : DObject) : DObject))) st1.2.1 ((⟨y11.Id, y11.Kind, y11.Name, y11.Low, y11.Keys, y11.Vals, (⟨y10.1, y11.Default.Num, y11.Default.Text, y11.Default.Ref⟩ : DValue)⟩ : DObject) : DObject))) st1.2.1).bind fun y12 => ((F_laws_markText (IntKind.i64.wrap ((IntKind.i64.wrap (y10.1 + 1)) + 1))).bind fun y13 => ((elt ((setS ((setS ((setS ((setS ((setS ((setS ((setS (setS st1.2.2 st1.2.1 ((⟨st1.1, y2.Kind, y2.Name, y2.Low, y2.Keys, y2.Vals, y2.Default⟩ : DObject) : DObject)) st1.2.1 ((⟨y3.Id, (IntKind.i64.wrap (st1.1 + 1)), y3.Name, y3.Low, y3.Keys, y3.Vals, y3.Default⟩ : DObject) : DObject))) st1.2.1 ((⟨y5.Id, y5.Kind, y4, y5.Low, y5.Keys, y5.Vals, y5.Default⟩ : DObject) : DObject))) st1.2.1 ((⟨y6.Id, y6.Kind, y6.Name, (IntKind.i64.wrap ((IntKind.i64.wrap ((IntKind.i64.wrap (st1.1 + 1)) + 1)) + 1)), y6.Keys, y6.Vals, y6.Default⟩ : DObject) : DObject))) st1.2.1 ((⟨y7.Id, y7.Kind, y7.Name, y7.Low, y8.2, y7.Vals, y7.Default⟩ : DObject) : DObject))) st1.2.1 ((⟨y9.Id, y9.Kind, y9.Name, y9.Low, y9.Keys, y10.2, y9.Default⟩ : DObject) : DObject))) st1.2.1 ((⟨y11.Id, y11.Kind, y11.Name, y11.Low, y11.Keys, y11.Vals, (⟨y10.1, y11.Default.Num, y11.Default.Text, y11.Default.Ref⟩ : DValue)⟩ : DObject) : DObject))) st1.2.1 ((⟨y12.Id, y12.Kind, y12.Name, y12.Low, y12.Keys, y12.Vals, (⟨y12.Default.Kind, (IntKind.i64.wrap (y10.1 + 1)), y12.Default.Text, y12.Default.Ref⟩ : DValue)⟩ : DObject) : DObject))) st1.2.1).bind fun y14 => ((elt ((setS ((setS ((setS ((setS ((setS ((setS ((setS ((setS (setS st1.2.2 st1.2.1 ((⟨st1.1, y2.Kind, y2.Name, y2.Low, y2.Keys, y2.Vals, y2.Default⟩ : DObject) : DObject)) st1.2.1 ((⟨y3.Id, (IntKind.i64.wrap (st1.1 + 1)), y3.Name, y3.Low, y3.Keys, y3.Vals, y3.Default⟩ : DObject) : DObject))) st1.2.1 ((⟨y5.Id, y5.Kind, y4, y5.Low, y5.Keys, y5.Vals, y5.Default⟩ : DObject) : DObject))) st1.2.1 ((⟨y6.Id, y6.Kind, y6.Name, (IntKind.i64.wrap ((IntKind.i64.wrap ((IntKind.i64.wrap (st1.1 + 1)) + 1)) + 1)), y6.Keys, y6.Vals, y6.Default⟩ : DObject) : DObject))) st1.2.1 ((⟨y7.Id, y7.Kind, y7.Name, y7.Low, y8.2, y7.Vals, y7.Default⟩ : DObject) : DObject))) st1.2.1 ((⟨y9.Id, y9.Kind, y9.Name, y9.Low, y9.Keys, y10.2, y9.Default⟩ : DObject) : DObject))) st1.2.1 ((⟨y11.Id, y11.Kind, y11.Name, y11.Low, y11.Keys, y11.Vals, (⟨y10.1, y11.Default.Num, y11.Default.Text, y11.Default.Ref⟩ : DValue)⟩ : DObject) : DObject))) st1.2.1 ((⟨y12.Id, y12.Kind, y12.Name, y12.Low, y12.Keys, y12.Vals, (⟨y12.Default.Kind, (IntKind.i64.wrap (y10.1 + 1)), y12.Default.Text, y12.Default.Ref⟩ : DValue)⟩ : DObject) : DObject))) st1.2.1 ((⟨y14.Id, y14.Kind, y14.Name, y14.Low, y14.Keys, y14.Vals, (⟨y14.Default.Kind, y14.Default.Num, y13, y14.Default.Ref⟩ : DValue)⟩ : DObject) : DObject))) st1.2.1).bind fun y15 => (some (.inl ((IntKind.i64.wrap ((IntKind.i64.wrap ((IntKind.i64.wrap ((IntKind.i64.wrap (y10.1 + 1)) + 1)) + 1)) + 1)), (IntKind.i64.wrap (st1.2.1 + 1)), (setS ((setS ((setS ((setS ((setS ((setS ((setS ((setS ((setS (setS st1.2.2 st1.2.1 ((⟨st1.1, y2.Kind, y2.Name, y2.Low, y2.Keys, y2.Vals, y2.Default⟩ : DObject) : DObject)) st1.2.1 ((⟨y3.Id, (IntKind.i64.wrap (st1.1 + 1)), y3.Name, y3.Low, y3.Keys, y3.Vals, y3.Default⟩ : DObject) : DObject))) st1.2.1 ((⟨y5.Id, y5.Kind, y4, y5.Low, y5.Keys, y5.Vals, y5.Default⟩ : DObject) : DObject))) st1.2.1 ((⟨y6.Id, y6.Kind, y6.Name, (IntKind.i64.wrap ((IntKind.i64.wrap ((IntKind.i64.wrap (st1.1 + 1)) + 1)) + 1)), y6.Keys, y6.Vals, y6.Default⟩ : DObject) : DObject))) st1.2.1 ((⟨y7.Id, y7.Kind, y7.Name, y7.Low, y8.2, y7.Vals, y7.Default⟩ : DObject) : DObject))) st1.2.1 ((⟨y9.Id, y9.Kind, y9.Name, y9.Low, y9.Keys, y10.2, y9.Default⟩ : DObject) : DObject))) st1.2.1 ((⟨y11.Id, y11.Kind, y11.Name, y11.Low, y11.Keys, y11.Vals, (⟨y10.1, y11.Default.Num, y11.Default.Text, y11.Default.Ref⟩ : DValue)⟩ : DObject) : DObject))) st1.2.1 ((⟨y12.Id, y12.Kind, y12.Name, y12.Low, y12.Keys, y12.Vals, (⟨y12.Default.Kind, (IntKind.i64.wrap (y10.1 + 1)), y12.Default.Text, y12.Default.Ref⟩ : DValue)⟩ : DObject) : DObject))) st1.2.1 ((⟨y14.Id, y14.Kind, y14.Name, y14.Low, y14.Keys, y14.Vals, (⟨y14.Default.Kind, y14.Default.Num, y13, y14.Default.Ref⟩ : DValue)⟩ : DObject) : DObject))) st1.2.1 ((⟨y15.Id, y15.Kind, y15.Name, y15.Low, y15.Keys, y15.Vals, (⟨y15.Default.Kind, y15.Default.Num, y15.Default.Text, (IntKind.i64.wrap ((IntKind.i64.wrap ((IntKind.i64.wrap (y10.1 + 1)) + 1)) + 1))⟩ : DValue)⟩ : DObject) : DObject))))))))))))))))))) else (some (.inr (st1.1, st1.2.2)))))
    (hb := fun a0 => fun st1 => (if (decide (st1.2 < (a0.l.length : Int))) = true then ((elt a0 st1.2).bind fun y2 => (if (!decide (y2.Id = st1.1)) = true then (some (.inr (.inr (-1)))) else ((elt a0 st1.2).bind fun y3 => (if (!decide (y3.Kind = (IntKind.i64.wrap (st1.1 + 1)))) = true then (some (.inr (.inr (-1)))) else ((elt a0 st1.2).bind fun y4 => ((F_laws_markText (IntKind.i64.wrap ((IntKind.i64.wrap (st1.1 + 1)) + 1))).bind fun y5 => (if (!decide (y4.Name = y5)) = true then (some (.inr (.inr (-1)))) else ((elt a0 st1.2).bind fun y6 => (if (!decide (y6.Low = (IntKind.i64.wrap ((IntKind.i64.wrap ((IntKind.i64.wrap (st1.1 + 1)) + 1)) + 1)))) = true then (some (.inr (.inr (-1)))) else ((elt a0 st1.2).bind fun y7 => ((F_laws_heldValueS y7.Keys (IntKind.i64.wrap ((IntKind.i64.wrap ((IntKind.i64.wrap ((IntKind.i64.wrap (st1.1 + 1)) + 1)) + 1)) + 1))).bind fun y8 => (if (decide (y8 < 0)) = true then (some (.inr (.inr (-1)))) else ((elt a0 st1.2).bind fun y9 => ((F_laws_heldValueS y9.Vals y8).bind fun y10 => (if (decide (y10 < 0)) = true then (some (.inr (.inr (-1)))) else ((elt a0 st1.2).bind fun y11 => (if (!decide (y11.Default.Kind = y10)) = true then (some (.inr (.inr (-1)))) else ((elt a0 st1.2).bind fun y12 => (if (!decide (y12.Default.Num = (IntKind.i64.wrap (y10 + 1)))) = true then (some (.inr (.inr (-1)))) else ((elt a0 st1.2).bind fun y13 => ((F_laws_markText (IntKind.i64.wrap ((IntKind.i64.wrap (y10 + 1)) + 1))).bind fun y14 => (if (!decide (y13.Default.Text = y14)) = true then (some (.inr (.inr (-1)))) else ((elt a0 st1.2).bind fun y15 => (if (!decide (y15.Default.Ref = (IntKind.i64.wrap ((IntKind.i64.wrap ((IntKind.i64.wrap (y10 + 1)) + 1)) + 1)))) = true then (some (.inr (.inr (-1)))) else (some (.inl ((IntKind.i64.wrap ((IntKind.i64.wrap ((IntKind.i64.wrap ((IntKind.i64.wrap (y10 + 1)) + 1)) + 1)) + 1)), (IntKind.i64.wrap (st1.2 + 1))))))))))))))))))))))))))))) else (some (.inr (.inl st1.1)))))
    h.2 h0 (by omega) (by omega) (fun k i t x hx hi ht hP h0 h1 => by
      have WI : IntKind.i64.wrap ((i : Int) + 1) = (i : Int) + 1 := wrapB (by omega) (by omega)
      have W0 : IntKind.i64.wrap (k + 1) = k + 1 := wrapB (by omega) (by omega)
      have W1 : IntKind.i64.wrap (k + 1 + 1) = k + 1 + 1 := wrapB (by omega) (by omega)
      obtain ⟨w2, hw2⟩ := markText_ok (k + 1 + 1) (by omega) (by omega)
      have W2 : IntKind.i64.wrap (k + 1 + 1 + 1) = k + 1 + 1 + 1 := wrapB (by omega) (by omega)
      have W3 : IntKind.i64.wrap (k + 1 + 1 + 1 + 1) = k + 1 + 1 + 1 + 1 := wrapB (by omega) (by omega)
      obtain ⟨k4, x4, m4, g4, a4, b4⟩ := mh_ValueS x.Keys hP.1 (k + 1 + 1 + 1 + 1) (by omega) (by omega)
      have d4 : decide (k4 < 0) = false := by simp; omega
      obtain ⟨k5, x5, m5, g5, a5, b5⟩ := mh_ValueS x.Vals hP.2.1 (k4) (by omega) (by omega)
      have d5 : decide (k5 < 0) = false := by simp; omega
      have W6 : IntKind.i64.wrap (k5 + 1) = k5 + 1 := wrapB (by omega) (by omega)
      have W7 : IntKind.i64.wrap (k5 + 1 + 1) = k5 + 1 + 1 := wrapB (by omega) (by omega)
      obtain ⟨w8, hw8⟩ := markText_ok (k5 + 1 + 1) (by omega) (by omega)
      have W8 : IntKind.i64.wrap (k5 + 1 + 1 + 1) = k5 + 1 + 1 + 1 := wrapB (by omega) (by omega)
      have W9 : IntKind.i64.wrap (k5 + 1 + 1 + 1 + 1) = k5 + 1 + 1 + 1 + 1 := wrapB (by omega) (by omega)
      refine ⟨k5 + 1 + 1 + 1 + 1, ⟨k, k + 1, w2, k + 1 + 1 + 1, x4, x5, ⟨k5, k5 + 1, w8, k5 + 1 + 1 + 1⟩⟩, ?_, by omega, by omega, fun t' ht' he hi' => ?_⟩
      · show (if decide ((i : Int) < (t.l.length : Int)) = true then _ else _) = _
        rw [if_pos (by simpa using hi)]
        simp only [hx, Option.bind_some, set_set', elt_set hi, WI, W0, W1, hw2, W2, W3, m4, m5, W6, W7, hw8, W8, W9]
      · show (if decide ((i : Int) < (t'.l.length : Int)) = true then _ else _) = _
        rw [if_pos (by simpa using hi')]
        simp only [he, Option.bind_some, WI, W0, W1, hw2, W2, W3, g4, d4, g5, d5, W6, W7, hw8, W8, W9, eq_self, decide_true, Bool.not_true, Bool.false_eq_true, if_false])
    (fun k t => by rw [if_neg (by simp)]) (fun k t => by rw [if_neg (by simp)])
  refine ⟨k', t', ?_, u_laws_heldObjectS t' k k' ?_, q4, by omega⟩
  · unfold B_laws_markObjectS; rw [q1]; rfl
  · unfold B_laws_heldObjectS; rw [q3]; rfl
theorem mh_Object (x : DObject) (h : LenObject x) (k : Int) (h0 : 0 ≤ k) (h1 : k ≤ 2305843009213693952) : ∃ k' x0 x1, B_laws_markObject x k = some (k', ⟨x.Id, x.Kind, x.Name, x.Low, x0, x1, ⟨x.Default.Kind, x.Default.Num, x.Default.Text, x.Default.Ref⟩⟩) ∧ k ≤ k' ∧ k' ≤ k + 8388616 ∧ ∀ (v1 : Int) (v2 : Int) (v3 : ByteArray) (v4 : Int) (v5 : Int) (v6 : Int) (v7 : ByteArray) (v8 : Int), F_laws_heldObject (⟨v1, v2, v3, v4, x0, x1, ⟨v5, v6, v7, v8⟩⟩ : DObject) k = some k' := by
  obtain ⟨k0, x0, m0, g0, a0, b0⟩ := mh_ValueS x.Keys h.1 (k) (by omega) (by omega)
  obtain ⟨k1, x1, m1, g1, a1, b1⟩ := mh_ValueS x.Vals h.2.1 (k0) (by omega) (by omega)
  refine ⟨k1, x0, x1, ?_, by omega, by omega, fun v1 v2 v3 v4 v5 v6 v7 v8 => u_laws_heldObject _ k _ ?_⟩
  · unfold B_laws_markObject
    rw [m0, Option.bind_some, m1, Option.bind_some]
  · unfold B_laws_heldObject
    rw [g0, Option.bind_some, if_neg (by simp; omega), g1, Option.bind_some, if_neg (by simp; omega)]
theorem mh_Heap (x : DHeap) (h : LenHeap x) (k : Int) (h0 : 0 ≤ k) (h1 : k ≤ 2305843009213693952) : ∃ k' x0, B_laws_markHeap x k = some (k', ⟨x.Next, x0⟩) ∧ k ≤ k' ∧ k' ≤ k + 8796118188048 ∧ ∀ (v1 : Int), F_laws_heldHeap (⟨v1, x0⟩ : DHeap) k = some k' := by
  obtain ⟨k0, x0, m0, g0, a0, b0⟩ := mh_ObjectS x.Objects h (k) (by omega) (by omega)
  refine ⟨k0, x0, ?_, by omega, by omega, fun v1 => u_laws_heldHeap _ k _ ?_⟩
  · unfold B_laws_markHeap
    rw [m0, Option.bind_some]
  · unfold B_laws_heldHeap
    rw [g0, Option.bind_some, if_neg (by simp; omega)]
/-! how arguments read -/
theorem un_i64 : Go.Proofs.Try.prog.underlying 2 = some (.int .i64) := by kernel_rfl
theorem dec_i64 {d : Nat} {ts : List T} (h : Shp Go.Proofs.Try.prog d 2 ts) : ∃ n : Int, ts = [.int .i64 n] := shp_int un_i64 (by kernel_rfl) h
theorem dec_str {d : Nat} {ts : List T} (h : Shp Go.Proofs.Try.prog d 9 ts) : ∃ x : ByteArray, ts = [.str x] ∧ FitStr x := shp_str (by kernel_rfl) h
theorem dec_Value {d : Nat} {ts : List T} (h : Shp Go.Proofs.Try.prog d 43 ts) : ∃ x : DValue, ts = DValue.cells x ∧ FitValue x := by
  obtain ⟨d, g⟩ := shp_struct (by kernel_rfl) h
  rw [show (fieldsT Go.Proofs.Try.prog 43).map (·.type) = [2, 2, 9, 2] from by kernel_rfl] at g
  obtain ⟨a0, t0, rfl, -, q0, g⟩ := g
  obtain ⟨x0, rfl⟩ := dec_i64 q0
  obtain ⟨a1, t1, rfl, -, q1, g⟩ := g
  obtain ⟨x1, rfl⟩ := dec_i64 q1
  obtain ⟨a2, t2, rfl, -, q2, g⟩ := g
  obtain ⟨x2, rfl, b2⟩ := dec_str q2
  obtain ⟨a3, t3, rfl, -, q3, g⟩ := g
  obtain ⟨x3, rfl⟩ := dec_i64 q3
  cases g
  exact ⟨⟨x0, x1, x2, x3⟩, rfl, b2⟩
theorem dec_s42 {d : Nat} {ts : List T} (h : Shp Go.Proofs.Try.prog d 42 ts) : ∃ x : Sl DValue, ts = [Sl.t x] ∧ FitS maxLen FitValue x :=
  shp_sl (kt := by kernel_rfl) (he := by kernel_rfl) (fun d ts h => dec_Value h) h
theorem dec_Object {d : Nat} {ts : List T} (h : Shp Go.Proofs.Try.prog d 45 ts) : ∃ x : DObject, ts = DObject.cells x ∧ FitObject x := by
  obtain ⟨d, g⟩ := shp_struct (by kernel_rfl) h
  rw [show (fieldsT Go.Proofs.Try.prog 45).map (·.type) = [2, 2, 9, 2, 42, 42, 43] from by kernel_rfl] at g
  obtain ⟨a0, t0, rfl, -, q0, g⟩ := g
  obtain ⟨x0, rfl⟩ := dec_i64 q0
  obtain ⟨a1, t1, rfl, -, q1, g⟩ := g
  obtain ⟨x1, rfl⟩ := dec_i64 q1
  obtain ⟨a2, t2, rfl, -, q2, g⟩ := g
  obtain ⟨x2, rfl, b2⟩ := dec_str q2
  obtain ⟨a3, t3, rfl, -, q3, g⟩ := g
  obtain ⟨x3, rfl⟩ := dec_i64 q3
  obtain ⟨a4, t4, rfl, -, q4, g⟩ := g
  obtain ⟨x4, rfl, b4⟩ := dec_s42 q4
  obtain ⟨a5, t5, rfl, -, q5, g⟩ := g
  obtain ⟨x5, rfl, b5⟩ := dec_s42 q5
  obtain ⟨a6, t6, rfl, -, q6, g⟩ := g
  obtain ⟨x6, rfl, b6⟩ := dec_Value q6
  cases g
  exact ⟨⟨x0, x1, x2, x3, x4, x5, x6⟩, rfl, ⟨b2, b4, b5, b6⟩⟩
theorem dec_s22 {d : Nat} {ts : List T} (h : Shp Go.Proofs.Try.prog d 22 ts) : ∃ x : Sl DObject, ts = [Sl.t x] ∧ FitS maxLen FitObject x :=
  shp_sl (kt := by kernel_rfl) (he := by kernel_rfl) (fun d ts h => dec_Object h) h
theorem dec_Heap {d : Nat} {ts : List T} (h : Shp Go.Proofs.Try.prog d 24 ts) : ∃ x : DHeap, ts = DHeap.cells x ∧ FitHeap x := by
  obtain ⟨d, g⟩ := shp_struct (by kernel_rfl) h
  rw [show (fieldsT Go.Proofs.Try.prog 24).map (·.type) = [2, 22] from by kernel_rfl] at g
  obtain ⟨a0, t0, rfl, -, q0, g⟩ := g
  obtain ⟨x0, rfl⟩ := dec_i64 q0
  obtain ⟨a1, t1, rfl, -, q1, g⟩ := g
  obtain ⟨x1, rfl, b1⟩ := dec_s22 q1
  cases g
  exact ⟨⟨x0, x1⟩, rfl, b1⟩
end Go.Am
end
