/- The law. -/
import Derived.Test.YtilalopohkdmdaaGreatAg1
import Derived.Test.YtilalopohkdmdaaGreatAl23
section
set_option maxRecDepth 100000
set_option maxHeartbeats 2000000
set_option linter.unusedVariables false
set_option linter.unusedSimpArgs false
namespace Go.Am
def lB_ (s : ByteArray) (st e : Int) (x : DCapture) : Prop := ∃ a b : Nat, st ≤ a ∧ a ≤ b ∧ (b : Int) ≤ e ∧ b ≤ s.size ∧ x.Cursor = b ∧ x.Text = s.extract a b
theorem lB_.mono {s : ByteArray} {st e e' : Int} {x : DCapture} (h : lB_ s st e x) (he : e ≤ e') : lB_ s st e' x := by
 obtain ⟨a, b, h1, h2, h3, h4, h5, h6⟩ := h; exact ⟨a, b, h1, h2, by omega, h4, h5, h6⟩
structure Cap (s : ByteArray) (st e : Int) (nw cd : List DCapture) : Prop where
 len : nw.length + cd.length ≤ 100
 kn : ∀ x ∈ nw, x.Kind ≠ 1
 kc : ∀ x ∈ cd, x.Kind = 1 ∧ lB_ s st e x
 so : cd.Pairwise fun x y => x.Cursor ≤ y.Cursor
theorem Cap.mono {s : ByteArray} {st e e' : Int} {nw cd : List DCapture} (h : Cap s st e nw cd) (he : e ≤ e') : Cap s st e' nw cd := ⟨h.len, h.kn, fun x hx => ⟨(h.kc x hx).1, (h.kc x hx).2.mono he⟩, h.so⟩
structure Cs (s : ByteArray) (st e : Int) (S : aa_) : Prop where
 sub : S.subject_ = s
 sta : S.start_ = st
 env : ∀ x ∈ S.env_.l, VP x.Pattern
 co : S.code_ = 0
 cap : Cap s st e S.now_.l S.conds_.l
theorem Cs.mono {s : ByteArray} {st e e' : Int} {S : aa_} (h : Cs s st e S) (he : e ≤ e') : Cs s st e' S := ⟨h.sub, h.sta, h.env, h.co, h.cap.mono he⟩
structure Uc (P : DMatch → Prop) (S : aa_) (r : Bool × aa_) : Prop where
 k : r.2.start_ = S.start_ ∧ r.2.env_ = S.env_ ∧ r.2.subject_ = S.subject_
 y : r.1 = true → r.2.code_ = 0 ∧ r.2.now_.l.length + r.2.conds_.l.length ≤ 100 ∧ (∀ x ∈ r.2.now_.l, x.Kind ≠ 1) ∧ r.2.conds_.l = S.conds_.l
 m : r.2.code_ = 0 → ∃ x, r.2.matches_.l = S.matches_.l ++ x ∧ ∀ m ∈ x, P m
section
variable {P : DMatch → Prop} {s : ByteArray} {st c : Int} {S : aa_}
theorem Uc.cs {r : Bool × aa_} (h : Uc P S r) (hb : r.1 = true) (h0 : Cs s st c S) : Cs s st c r.2 := by
 obtain ⟨y1, y2, y3, y4⟩ := h.y hb
 exact ⟨h.k.2.2.trans h0.sub, h.k.1.trans h0.sta, h.k.2.1 ▸ h0.env, y1, ⟨y2, y3, y4 ▸ h0.cap.kc, y4 ▸ h0.cap.so⟩⟩
theorem Uc.same {b : Bool} (h : Cs s st c S) : Uc P S (b, S) := ⟨⟨rfl, rfl, rfl⟩, fun _ => ⟨h.co, h.cap.len, h.cap.kn, rfl⟩, fun _ => ⟨[], by simp, fun m hm => by simp at hm⟩⟩
theorem Uc.no {S' : aa_} {b : Bool} (h : Uc P S (b, S')) : Uc P S (false, S') := ⟨h.k, fun h => (by cases h), h.m⟩
end
def o9_ (P : DMatch → Prop) (s : ByteArray) (st c : Int) (Φ : PhiT) : Prop := ∀ e S, c ≤ e → e ≤ (s.size : Int) → Cs s st e S → Gv (Φ e S) (Uc P S)
theorem o9_.mono {P : DMatch → Prop} {s : ByteArray} {st c c' : Int} {Φ : PhiT} (h : o9_ P s st c Φ) (hc : c ≤ c') : o9_ P s st c' Φ := fun e S h1 h2 h3 => h e S (Int.le_trans hc h1) h2 h3
section
variable {P : DMatch → Prop} {s : ByteArray} {st c : Int} {R1 R2 : MTy} {p : DPattern} {Φ : PhiT}
end
end Go.Am
end
