/- The law. -/
import Derived.Test.YtilalopohkdmdaaGreatAg1
import Derived.Test.YtilalopohkdmdaaGreatAg2
import Derived.Test.YtilalopohkdmdaaGreatAl25
import Derived.Test.YtilalopohkdmdaaGreatAl27
section
set_option maxRecDepth 100000
set_option maxHeartbeats 2000000
set_option linter.unusedVariables false
set_option linter.unusedSimpArgs false
namespace Go.Am
abbrev balP : DPattern := ⟨13, 0, ⟨#[]⟩, ⟨true, []⟩⟩
structure Ib (s : ByteArray) (st : Int) (P : DMatch → Prop) (S : aa_) : Prop where
 k : S.subject_ = s ∧ S.start_ = st ∧ S.env_ = ⟨true, []⟩
 c : S.code_ = 0
 m : ∀ m ∈ S.matches_.l, P m
structure Jb (s : ByteArray) (st : Int) (P : DMatch → Prop) (r : Bool × aa_) : Prop where
 k : r.2.subject_ = s ∧ r.2.start_ = st ∧ r.2.env_ = ⟨true, []⟩
 y : r.1 = true → r.2.code_ = 0
 c : r.2.code_ = 0 ∨ r.2.code_ = 6 ∨ r.2.code_ = 7
 m : ∀ m ∈ r.2.matches_.l, P m
def StB (cd : Int) (mt : Sl DMatch) (y : Bool × Int × Int × Sl DMatch) : Prop := (y.1 = false ∧ y.2.2.1 = 7 ∧ y.2.2.2.l = []) ∨ (y.1 = true ∧ y.2.2.1 = cd ∧ y.2.2.2 = mt)
theorem st_b (a b cd : Int) (mt : Sl DMatch) : Gv ((if (decide (a = b)) = true then (some (false, a, 7, (⟨true, []⟩ : Sl DMatch))) else (some (true, (w4 (a + 1)), cd, mt))) : Option (Bool × Int × Int × (Sl DMatch))) (StB cd mt) :=
 gt_ (fun _ => a2_ (.inl ⟨rfl, rfl, rfl⟩)) fun _ => a2_ (.inr ⟨rfl, rfl, rfl⟩)
section
variable {s : ByteArray} {st : Int} {P : DMatch → Prop}
theorem Ib.ns {S : aa_} (h : Ib s st P S) : Ib s st P (NS S) := ⟨h.k, h.c, h.m⟩
theorem Jb.ns {r : Bool × aa_} (h : Jb s st P r) : Jb s st P (r.1, NS r.2) := ⟨h.k, h.y, h.c, h.m⟩
theorem Jb.ib {r : Bool × aa_} (h : Jb s st P r) (hb : r.1 = true) : Ib s st P r.2 := ⟨h.k, h.y hb, h.m⟩
theorem Jb.over {S : aa_} (h : S.subject_ = s ∧ S.start_ = st ∧ S.env_ = ⟨true, []⟩) (hc : S.code_ = 7) (hm : S.matches_.l = []) : Jb s st P (false, S) := ⟨h, fun h => (by cases h), .inr (.inr hc), fun m hmm => by rw [show (false, S).2.matches_.l = [] from hm] at hmm; simp at hmm⟩
theorem Ib.jb {S : aa_} (h : Ib s st P S) : Jb s st P (true, S) := ⟨h.k, fun _ => h.c, .inl h.c, h.m⟩
theorem m6_ (hs : s.size ≤ 200) {c : Nat} (hc : c ≤ s.size) {Φ : PhiT} (hΦ : ∀ (e : Nat) S, Bd s c e → Ib s st P S → Gv (Φ (e : Int) S) (Jb s st P)) (n : Nat) {S : aa_} (h : Ib s st P S) : Gv ((BG_impl_search_match (n + 1)).1 S balP (c : Int) Φ) (Jb s st P) := by
 rw [show (BG_impl_search_match (n + 1)).1 S balP (c : Int) Φ = ac_ (BG_impl_search_match n).1 (BG_impl_search_match n).2 S balP (c : Int) Φ from rfl]
 unfold ac_
 refine bb_ (st_b _ _ _ _) fun y hy => ?_
 obtain ⟨b, t, cd, mt⟩ := y
 rcases hy with ⟨rfl, h1, h2⟩ | ⟨rfl, h1, h2⟩
 ·exact gt_ (fun _ => a2_ (Jb.over h.k h1 h2)) fun w => absurd rfl w
 simp only at h1 h2; subst h1 h2
 simp only [Int.reduceEq, decide_true, decide_false, Bool.false_eq_true, Bool.not_true, Bool.not_false, if_true, if_false]
 have nx : ∀ (S : aa_) (j : Int), S.subject_ = s → Gv (aX_ S.subject_ c j) (fun v => v < 0 ∨ ∃ e : Nat, v = e ∧ Bd s c e) := fun S j hsub v hv => by
  rw [hsub] at hv
  obtain ⟨v', v1, v2⟩ := nJ_ (s := s) (c := c) j hs hc
  rw [v1] at hv; injection hv with hv; subst hv
  rcases v2 with v2 | ⟨e, e1, e2, _⟩
  ·exact .inl v2.1
  ·exact .inr ⟨e, e1, e2⟩
 refine bb_ (nx S c h.k.1) fun v hv => bb_ (Q := fun x => Sum.elim (fun y => Jb s st P (true, D11 y)) (fun r => Jb s st P r) x) (kR_ (fun st1 : Int × T11 => (st1.1 < 0 ∨ ∃ e : Nat, st1.1 = e ∧ Bd s c e) ∧ Ib s st P (D11 st1.2)) ⟨hv, ⟨h.k, h.c, h.m⟩⟩ fun st1 hst => gt_ (fun hj => ?_) fun _ => a2_ hst.2.jb) fun x hx => ?_
 ·have hj : 0 ≤ st1.1 := by simpa using hj
  obtain ⟨e, e1, e2⟩ := hst.1.resolve_left (by omega)
  rw [e1]
  refine bb_ (hΦ e _ e2 hst.2) fun r hr => gt_ (fun _ => a2_ ⟨hr.k, fun h => (by cases h), hr.c, hr.m⟩) fun hb => bb_ (nx r.2 e hr.k.1) fun v hv => a2_ ⟨hv, ?_⟩
  have hb : r.1 = true := by cases h : r.1 <;> simp [h] at hb ⊢
  have := hr.ib hb
  exact ⟨this.k, this.c, this.m⟩
 ·cases x with
  | inl y => exact a2_ hx
  | inr r => exact a2_ hx
theorem m8_ {e : Int} (hP : ∀ y, P ⟨st, e, y⟩) {S : aa_} (h : Ib s st P S) : Gv (al_ S e) (Jb s st P) := by
 unfold al_
 refine gt_ (fun _ => bb_ (st_b _ _ _ _) fun y hy => ?_) fun _ => bb_ (st_b _ _ _ _) fun y hy => ?_
 ·obtain ⟨b, t, cd, mt⟩ := y
  rcases hy with ⟨rfl, h1, h2⟩ | ⟨rfl, h1, h2⟩
  ·exact a2_ (Jb.over h.k h1 h2)
  ·simp only at h1 h2; subst h1 h2
   exact a2_ ⟨h.k, fun _ => h.c, .inl h.c, h.m⟩
 ·obtain ⟨b, t, cd, mt⟩ := y
  rcases hy with ⟨rfl, h1, h2⟩ | ⟨rfl, h1, h2⟩
  ·exact gt_ (fun _ => a2_ (Jb.over h.k h1 h2)) fun w => absurd rfl w
  ·simp only at h1 h2; subst h1 h2
   refine gt_ (fun w => by cases w) fun _ => gt_ (fun _ => a2_ ⟨h.k, fun h => (by cases h), .inr (.inl rfl), h.m⟩) fun _ => bb_ o0_ fun y _ => bb_ app1 fun q hq => a2_ ⟨h.k, fun _ => h.c, .inl h.c, fun m hm => ?_⟩
   have hq : q.l = S.matches_.l ++ [⟨S.start_, e, y⟩] := hq
   have hm : m ∈ q.l := hm
   rw [hq] at hm
   rcases List.mem_append.1 hm with hm | hm
   ·exact h.m m hm
   ·rw [List.mem_singleton] at hm; rw [hm, h.k.2.1]; exact hP y
theorem sc_ (hs : s.size ≤ 200) {c : Nat} (hc : c ≤ s.size) {Φ : PhiT} (hΦ : ∀ (m e : Nat) S, Bd s c m → Bd s m e → Ib s st P S → Gv (Φ (e : Int) S) (Jb s st P)) (n : Nat) {S : aa_} (h : Ib s st P S) : Gv ((BG_impl_search_match (n + 3)).1 S (catP balP balP) (c : Int) Φ) (Jb s st P) := by
 rw [show (BG_impl_search_match (n + 3)).1 S (catP balP balP) (c : Int) Φ = ac_ (BG_impl_search_match (n + 2)).1 (BG_impl_search_match (n + 2)).2 S (catP balP balP) (c : Int) Φ from rfl]
 unfold ac_
 refine bb_ (st_b _ _ _ _) fun y hy => ?_
 obtain ⟨b, t, cd, mt⟩ := y
 rcases hy with ⟨rfl, h1, h2⟩ | ⟨rfl, h1, h2⟩
 ·exact gt_ (fun _ => a2_ (Jb.over h.k h1 h2)) fun w => absurd rfl w
 simp only at h1 h2; subst h1 h2
 have dl : decide (0 < (([balP, balP] : List DPattern).length : Int)) = true := rfl
 have e0 : elt (⟨false, [balP, balP]⟩ : Sl DPattern) 0 = some balP := rfl
 have e1 : elt (⟨false, [balP, balP]⟩ : Sl DPattern) 1 = some balP := rfl
 simp only [Int.reduceEq, decide_true, decide_false, Bool.false_eq_true, Bool.not_true, Bool.not_false, if_true, if_false, dl]
 rw [bgI2 (n + 1)]
 unfold ap_
 simp only [e0, Option.bind_some, Int.reduceEq, decide_true, decide_false, Bool.false_eq_true, if_true, if_false]
 refine bb_ (Q := Jb s st P) (bb_ (m6_ hs hc (fun m S' hm hS' => ?_) n (⟨h.k, h.c, h.m⟩ : Ib s st P ⟨S.env_, S.subject_, S.fuel_, t, S.start_, S.now_, S.conds_, S.matches_, S.most_, S.isMere_, T.nilm, S.code_⟩)) fun r hr => a2_ hr.ns) fun r hr => a2_ hr.ns
 unfold am_
 simp only [e1, Option.bind_some]
 exact bb_ (m6_ hs hm.2.1 (fun e S2 he hS2 => hΦ m e S2 hm he hS2) n hS'.ns) fun r hr => a2_ hr.ns
end
def PB2 (s : ByteArray) (k : Nat) (m : DMatch) : Prop := ∃ a b : Nat, m.Start = a ∧ m.End = b ∧ Bd s a b ∧ a + k < b
theorem mA_ {s : ByteArray} (hs : s.size ≤ 200) {f : Int} {w : Sl (Iv .i64)} (hw : ∀ x ∈ w.l, 0 ≤ x.v ∧ x.v ≤ (s.size : Int)) (k : Nat) (p : DPattern) (hp : (k = 0 ∧ p = balP) ∨ (k = 1 ∧ p = catP balP balP)) : Gv (IMF p w (St0 ⟨true, []⟩ s f)) (fun x => (x.2.2.2.2.2.2.2.1 = 0 ∨ x.2.2.2.2.2.2.2.1 = 6 ∨ x.2.2.2.2.2.2.2.1 = 7) ∧ ∀ m ∈ x.2.2.2.2.2.2.2.2.2.2.l, PB2 s k m) := by
 unfold IMF
 refine kR_ (fun st : Int × T11 => Ib s (D11 st.2).start_ (PB2 s k) (D11 st.2)) ⟨⟨rfl, rfl, rfl⟩, rfl, fun m hm => by simp at hm⟩ fun st hst => gt_ (fun hi => bb_ pn_ fun v hv0 => ?_) fun _ => a2_ ⟨.inl hst.c, hst.m⟩
 obtain ⟨c, hc⟩ : ∃ c : Nat, v.v = c := ⟨v.v.toNat, by have := hw v hv0; omega⟩
 have hcs : c ≤ s.size := by have := hw v hv0; omega
 have h0 : Ib s v.v (PB2 s k) ⟨st.2.1, st.2.2.1, st.2.2.2.1, st.2.2.2.2.1, v.v, st.2.2.2.2.2.2.2.2.2.1, st.2.2.2.2.2.2.2.2.2.2.1, st.2.2.2.2.2.2.2.2.2.2.2, st.2.2.2.2.2.2.1, st.2.2.2.2.2.2.2.1, T.nilm, st.2.2.2.2.2.2.2.2.1⟩ := ⟨⟨hst.k.1, rfl, hst.k.2.2⟩, hst.c, hst.m⟩
 have key : Gv (aZ_ ⟨st.2.1, st.2.2.1, st.2.2.2.1, st.2.2.2.2.1, v.v, st.2.2.2.2.2.2.2.2.2.1, st.2.2.2.2.2.2.2.2.2.2.1, st.2.2.2.2.2.2.2.2.2.2.2, st.2.2.2.2.2.2.1, st.2.2.2.2.2.2.2.1, T.nilm, st.2.2.2.2.2.2.2.2.1⟩ p v.v (fun e S => al_ S e)) (Jb s v.v (PB2 s k)) := by
  rw [hc] at h0 ⊢
  rcases hp with ⟨rfl, rfl⟩ | ⟨rfl, rfl⟩
  ·exact m6_ hs hcs (fun e S' he hS' => m8_ (fun y => ⟨c, e, rfl, rfl, he, by have := he.1; omega⟩) hS') 99999999999 h0
  ·exact sc_ hs hcs (fun m e S' hm he hS' => m8_ (fun y => ⟨c, e, rfl, rfl, hm.trans he, by have := he.1; have := hm.1; omega⟩) hS') 99999999997 h0
 refine bb_ key fun r hr => gt_ (fun _ => a2_ ⟨hr.c, hr.m⟩) fun hb => a2_ ?_
 have hb : r.1 = true := by cases h : r.1 <;> simp [h] at hb ⊢
 have := hr.ib hb
 exact ⟨⟨this.k.1, rfl, this.k.2.2⟩, this.c, this.m⟩
end Go.Am
end
