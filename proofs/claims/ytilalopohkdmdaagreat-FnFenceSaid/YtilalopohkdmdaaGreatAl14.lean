/- The law. -/
import Derived.Test.YtilalopohkdmdaaGreatAg1
import Derived.Test.YtilalopohkdmdaaGreatAg2
import Derived.Test.YtilalopohkdmdaaGreatAl9
import Derived.Test.YtilalopohkdmdaaGreatAl13
section
set_option maxRecDepth 100000
set_option maxHeartbeats 2000000
set_option linter.unusedVariables false
set_option linter.unusedSimpArgs false
namespace Go.Am
structure Ix (env : Sl DNamed) (s : ByteArray) (X : List Int) (S S' : aa_) : Prop where
 e : S.env_ = env ∧ S'.env_ = env
 s : S.subject_ = s ∧ S'.subject_ = s
 m : S.most_ = 0 ∧ S'.most_ = 0
 r : S.isMere_ = false ∧ S'.isMere_ = false
 l : S.matches_.l.map (fun x => x.End) = X ++ S'.matches_.l.map (fun x => x.End)
theorem pp_ (env : Sl DNamed) (s : ByteArray) (X : List Int) : Clo (Ix env s X) where
 same h := ⟨h.e.2.trans h.e.1.symm, h.s.2.trans h.s.1.symm⟩
 upd _ _ _ _ _ _ _ _ _ _ h := ⟨h.e, h.s, h.m, h.r, h.l⟩
theorem lH_ (env : Sl DNamed) (s : ByteArray) (X : List Int) : PhiJ (Ix env s X) (fun e (S : aa_) => ao_ S e) (fun e (S : aa_) => ao_ S e) := fun e S S' h h1 h2 => by
 show Gt (ao_ S e) (ao_ S' e) _
 unfold ao_
 rw [h.r.1, h.r.2, if_neg (c := false = true) (by simp), if_neg (c := false = true) (by simp), h1, h2]
 refine az_ (fO_ (st_q _ _ 0 S.matches_) (st_q _ _ 0 S'.matches_)) fun y y' hy => ?_
 obtain ⟨b, k, cs, m⟩ := y
 obtain ⟨b', k', cs', m'⟩ := y'
 rcases hy with ⟨⟨rfl, a2⟩ | ⟨rfl, a2, a3⟩, hq'⟩
 ·exact gG_ rfl (bn_ fun _ => .inl ⟨rfl, by show cs ≠ 0; intro w; simp only at a2; omega⟩)
 rcases hq' with ⟨rfl, a2'⟩ | ⟨rfl, a2', a3'⟩
 ·exact gH_ rfl (a0_ fun _ => .inr (.inl ⟨rfl, by show cs' ≠ 0; intro w; simp only at a2'; omega⟩))
 simp only at a2 a3 a2' a3'
 subst a2 a3 a2' a3'
 refine bJ_ (fun w => by cases w) fun _ => ?_
 have bad : ∀ T : aa_, T.code_ = 6 → Bad (false, T) := fun T hT => ⟨rfl, by show T.code_ ≠ 0; rw [hT]; decide⟩
 by_cases q1 : S.matches_.l.length = 60
 ·exact gG_ (by simp [q1]) (bn_ fun _ => .inl (bad _ rfl))
 rw [if_neg (by simp; omega)]
 by_cases q2 : S'.matches_.l.length = 60
 ·exact gH_ (by simp [q2]) (a0_ fun _ => .inr (.inl (bad _ rfl)))
 rw [if_neg (by simp; omega)]
 refine az_ (Q := fun _ _ => True) (fun _ _ _ _ => trivial) fun y y' _ => az_ (fO_ app1 app1) fun q q' hq => aE_ ?_
 obtain ⟨f1, f2⟩ := hq
 have f1 : q.l = S.matches_.l ++ [⟨S.start_, e, y⟩] := f1
 have f2 : q'.l = S'.matches_.l ++ [⟨S'.start_, e, y'⟩] := f2
 refine .inr (.inr ⟨?_, ⟨h.e, h.s, h.m, ⟨rfl, rfl⟩, ?_⟩, fun _ => ⟨rfl, rfl⟩⟩)
 ·show (!decide ((q.l.length : Int) = S.most_)) = (!decide ((q'.l.length : Int) = S'.most_))
  rw [h.m.1, h.m.2, f1, f2]
  have d : ∀ n : Nat, decide (((n + 1 : Nat) : Int) = 0) = false := fun n => by simp; omega
  rw [List.length_append, List.length_append]
  simp only [List.length_cons, List.length_nil, Nat.zero_add, d]
 ·show q.l.map _ = X ++ q'.l.map _
  rw [f1, f2, List.map_append, List.map_append, h.l, List.append_assoc]; rfl
abbrev Fr0 (env : Sl DNamed) (s : ByteArray) (f a : Int) : aa_ := ⟨env, s, f, 0, a, ⟨true, []⟩, ⟨true, []⟩, ⟨true, []⟩, 0, false, T.nilm, 0⟩
noncomputable abbrev Run0 (env : Sl DNamed) (s : ByteArray) (f a : Int) (p : DPattern) : Option (Bool × aa_) := bl_ (Fr0 env s f a) p a (fun e S => ao_ S e)
end Go.Am
end
