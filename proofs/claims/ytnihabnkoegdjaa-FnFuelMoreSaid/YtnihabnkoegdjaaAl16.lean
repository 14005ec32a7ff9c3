/- The law. -/
import Derived.Test.YtnihabnkoegdjaaAg1
import Derived.Test.YtnihabnkoegdjaaAg2
import Derived.Test.YtnihabnkoegdjaaAg3
import Derived.Test.YtnihabnkoegdjaaAl15
import Derived.Test.YtnihabnkoegdjaaAl4
section
set_option maxRecDepth 100000
set_option maxHeartbeats 4000000
set_option linter.unusedVariables false
set_option linter.unusedSimpArgs false
namespace Go.Am
namespace Nt
abbrev QA : MdQ := ⟨0, false, 1⟩
section
variable {env : Sl DNamed} {s : ByteArray} {F M : Nat} {start : Int}
theorem mC_ {C : List ah_} {x : ah_} (hx : x.p_.Kind = 0) (hxc : x.c_ = start) {c0 : Nat} (hc0 : start = (c0 : Int)) : KOk QA env s F M 0 start (fun e (S : aa_) => ak_ S e) (x :: C) c0 := by
 intro M' hM' nw cd mt cs ou nw2 cd2 e n hi hpre hce hes hn
 obtain ⟨n, rfl⟩ : ∃ m, n = m + 1 := ⟨n - 1, by omega⟩
 obtain ⟨C2, hC⟩ := hpre
 have hel : elt cs 0 = some x := by
  show elt cs ((0 : Nat) : Int) = _
  exact jY_ (by rw [hC]; rfl)
 have hlen := hi.len
 have hml := hi.hml
 show ∃ b S' r', ak_ _ _ = _ ∧ aw_ _ _ _ _ _ = _ ∧ _
 unfold ak_ aw_
 simp only [Int.natCast_zero, hel, Option.bind_some, hx]
 cases M' with
 | zero =>
  simp only [Int.natCast_zero, Int.sub_zero, decide_true, if_true, Option.bind_some, Bool.false_eq_true, if_false, Bool.not_false, Int.le_refl]
  exact ⟨false, _, _, rfl, by simp; rfl, rfl, ⟨[], by simp⟩, Nat.le_refl _, Nat.le_refl _, (fun h => by cases h), fun _ => .inl ⟨by simp, rfl, rfl⟩, by have := hi.hcap; have := hi.hcd; show cd2.l.length ≤ 200; omega, (fun h => by cases h)⟩
 | succ M' =>
  have hMF := hi.hM
  have hF := hi.hF
  have w1 : w4 ((F : Int) - ((M' + 1 : Nat) : Int) + 1) = (F : Int) - M' := by
   rw [aS_ (by omega) (by omega)]; omega
  have d1 : decide ((F : Int) - ((M' + 1 : Nat) : Int) = (F : Int)) = false := by simp; omega
  have d2 : decide ((F : Int) ≤ (F : Int) - ((M' + 1 : Nat) : Int)) = false := by simp; omega
  simp only [d1, d2, w1, Bool.false_eq_true, if_false, Option.bind_some, Bool.not_true, if_true]
  by_cases h60 : ou.l.length = 60
  ·have d3 : decide ((mt.l.length : Int) = 60) = true := by simp; omega
   have d4 : decide ((60 : Int) ≤ (ou.l.length : Int)) = true := by simp; omega
   simp only [d3, d4, if_true]
   refine ⟨false, _, _, rfl, by simp; rfl, rfl, ⟨[], by simp⟩, Nat.le_refl _, Nat.le_refl _, (fun h => by cases h), fun _ => .inr (.inl ⟨rfl, rfl, rfl, rfl, hi.mtE, hi.hml, rfl⟩), by have := hi.hcap; have := hi.hcd; show cd2.l.length ≤ 200; omega, (fun h => by cases h)⟩
  ·have d3 : decide ((mt.l.length : Int) = 60) = false := by simp; omega
   have d4 : decide ((60 : Int) ≤ (ou.l.length : Int)) = false := by simp; omega
   obtain ⟨y, hy, hyl⟩ := kE_ nw cd hi.hcap
   have hcap := hi.hcap
   have hnw := hi.hnw
   have hcd := hi.hcd
   have app : ∀ (x y : Sl DCapture), x.l.length + y.l.length ≤ 100 → ∃ w, appS 48 x y = some w ∧ w.l = x.l ++ y.l := fun x y hxy => by
    unfold appS
    cases hy : y.l with
    | nil => exact ⟨x, rfl, by simp⟩
    | cons q l => rw [hy] at hxy; exact ⟨⟨false, x.l ++ (q :: l)⟩, by rw [if_pos (by omega)], rfl⟩
   obtain ⟨y1, a1, a2⟩ := app ⟨false, []⟩ nw2 (by simp; omega)
   obtain ⟨y2, a3, a4⟩ := app y1 cd2 (by rw [a2]; simp; omega)
   obtain ⟨z1, m1⟩ := mt; obtain ⟨z2, m2⟩ := ou
   have hm1 : m1.length ≤ 60 := hml
   have hm2 : m1.length = m2.length := hlen
   have p1 : appS 40 (⟨z1, m1⟩ : Sl DMatch) ⟨false, [⟨start, (e : Int), y⟩]⟩ = some ⟨false, m1 ++ [⟨start, (e : Int), y⟩]⟩ := bP_ (by omega)
   have p2 : appS 40 (⟨z2, m2⟩ : Sl DMatch) ⟨false, [⟨x.c_, (e : Int), y2⟩]⟩ = some ⟨false, m2 ++ [⟨x.c_, (e : Int), y2⟩]⟩ := bP_ (by omega)
   have d5 : decide ((((m1 ++ [(⟨start, (e : Int), y⟩ : DMatch)]).length : Nat) : Int) = 0) = false := by simp; omega
   simp only [d3, d4, Bool.false_eq_true, if_false, hy, a1, a3, p1, p2, Option.bind_some, d5]
   refine ⟨true, _, _, rfl, by simp; rfl, rfl, ⟨[], by simp⟩, Nat.le_refl _, Nat.le_refl _, fun _ => ⟨M', nw, cd, _, cs, _, nw2, cd2, by omega, rfl, rfl, ⟨hF, by omega, hi.nwE, hi.cdE, hi.hcap, ?_, ?_, by have := hi.hcl; omega⟩, rfl⟩, (fun h => by cases h), by have := hi.hcap; have := hi.hcd; show cd2.l.length ≤ 200; omega, fun _ => by show (cs.l.length : Int) + ((F : Int) - ((F : Int) - M')) ≤ cs.l.length + ((M' + 1 : Nat) : Int); omega⟩
   ·have hm : m1.map mkey = m2.map mkey := hi.mtE.k
    have ek : mkey ⟨start, (e : Int), y⟩ = mkey ⟨x.c_, (e : Int), y2⟩ := by
     show (start, (e : Int), y.l) = (x.c_, (e : Int), y2.l)
     rw [hxc, hyl, a4, a2, hi.nwE, hi.cdE, List.nil_append]
    refine ⟨?_, fun m hmm => ?_, fun m hmm => ?_⟩
    ·show (m1 ++ [_]).map mkey = (m2 ++ [_]).map mkey
     rw [List.map_append, List.map_append, hm, List.map_singleton, List.map_singleton, ek]
    ·rcases List.mem_append.1 hmm with h | h
     ·exact hi.mtE.c m h
     ·rw [List.mem_singleton] at h; rw [h]; show y.l.length ≤ 100; rw [hyl, List.length_append]; exact hi.hcap
    ·rcases List.mem_append.1 hmm with h | h
     ·exact hi.mtE.g m h
     ·rw [List.mem_singleton] at h; rw [h]; show 0 ≤ start ∧ start ≤ (e : Int) ∧ (e : Int) ≤ s.size; omega
   ·show (m1 ++ [_]).length ≤ 60
    simp only [List.length_append, List.length_cons, List.length_nil]
    have h60 : ¬ m2.length = 60 := h60
    omega
end
section
variable {Q : MdQ} {env : Sl DNamed} {s : ByteArray} {F : Nat}
theorem kC_ (hQ : ∀ M start (c : Nat), start = (c : Int) → KOk Q env s F M 0 start (fun e (S : aa_) => ak_ S e) [⟨⟨0, 0, ⟨#[]⟩, ⟨true, []⟩⟩, start, 0⟩] c) {p : DPattern} {starts : Sl (Iv .i64)} (hs : s.size ≤ 200) (hE : ∀ x ∈ env.l, VP x.Pattern) (hEl : env.l.length ≤ 40) (hv : VP p) (hst : ∀ x ∈ starts.l, 0 ≤ x.v ∧ x.v ≤ s.size) (hl : starts.l.length ≤ 1000) :
  ∀ (m i : Nat), i + m = starts.l.length → ∀ M nw cd mt ou nw2 st0, Inv s F M nw cd mt ⟨false, [⟨⟨0, 0, ⟨#[]⟩, ⟨true, []⟩⟩, 0, 0⟩]⟩ ou nw2 ⟨false, []⟩ →
  ∃ S', IMF p starts ((i : Int), env, s, (F : Int), (F : Int) - M, st0, Q.mo, Q.me, 0, nw, cd, mt) = some (cu_ S') ∧ S'.matches_.l.length ≤ 60 := by
 intro m
 induction m with
 | zero =>
  intro i hi M nw cd mt ou nw2 st0 hinv
  have d0 : decide ((i : Int) < (starts.l.length : Int)) = false := by simp; omega
  refine ⟨sI Q env s F ((F : Int) - M) st0 nw cd mt, ao_ ?_, hinv.hml⟩
  simp only [d0, Bool.false_eq_true, if_false]
 | succ m ih =>
  intro i hi M nw cd mt ou nw2 st0 hinv
  have hlt : i < starts.l.length := by omega
  have d0 : decide ((i : Int) < (starts.l.length : Int)) = true := by simp; omega
  have ec : ((i + 1 : Nat) : Int) = (i : Int) + 1 := by simp
  have w1 : w4 ((i : Int) + 1) = (i : Int) + 1 := aS_ (by omega) (by omega)
  obtain ⟨h0, h1⟩ := hst _ (List.getElem_mem hlt)
  obtain ⟨c, hc⟩ : ∃ c : Nat, starts.l[i].v = c := ⟨starts.l[i].v.toNat, by omega⟩
  have hel := bI_ hlt
  have hF := hinv.hF
  have hMF := hinv.hM
  have hEE : EE = 30002 := rfl
  have hi2 : Inv s F M nw cd mt ⟨false, [⟨⟨0, 0, ⟨#[]⟩, ⟨true, []⟩⟩, starts.l[i].v, 0⟩]⟩ ou nw2 ⟨false, []⟩ := ⟨hinv.hF, hinv.hM, hinv.nwE, hinv.cdE, hinv.hcap, hinv.mtE, hinv.hml, hinv.hcl⟩
  have hfo := hQ M starts.l[i].v c hc
  have hbig : bigN = 100000000000 := rfl
  obtain ⟨b, S', r', g1, g2, g3⟩ := rZ_ hs hE hEl M starts.l[i].v nw cd mt _ ou nw2 _ p c 0 _ bigN bigN hi2 hv (by omega) (by simp) hfo (by rw [hbig]; omega) (by rw [hbig, hEE]; omega)
  have g1 : bk_ (sI Q env s F ((F : Int) - M) starts.l[i].v nw cd mt) p starts.l[i].v (fun e (S : aa_) => ak_ S e) = some (b, S') := by
   unfold bk_; rw [hc] at g1 ⊢; exact g1
  cases b with
  | false =>
   refine ⟨S', ao_ ?_, ?_⟩
   ·simp only [d0, if_true, hel, Option.bind_some, g1, Bool.not_false]
   ·rcases g3.no rfl with w | w | w
    ·rw [w.2.2]; simp
    ·exact w.2.2.2.2.2.1
    ·exact w.2.2.2.2.2.1
  | true =>
   obtain ⟨M2, nw', cd', mt', cs', ou', nw2', cd2', q1, rfl, rfl, q4, q5⟩ := g3.go rfl
   have hcd0 : cd.l.length = 0 := hinv.hcd
   have hi3 : Inv s F M2 nw' cd' mt' ⟨false, [⟨⟨0, 0, ⟨#[]⟩, ⟨true, []⟩⟩, 0, 0⟩]⟩ ou' nw2' ⟨false, []⟩ := ⟨hF, by omega, q4.nwE, by show cd'.l = []; exact List.length_eq_zero_iff.1 (by rw [q5, hcd0]), q4.hcap, q4.mtE, q4.hml, by simp; omega⟩
   obtain ⟨S', u1, u2⟩ := ih (i + 1) (by omega) M2 nw' cd' mt' ou' nw2' starts.l[i].v hi3
   rw [ec] at u1
   refine ⟨S', aC_ ?_ u1, u2⟩
   simp only [d0, if_true, hel, Option.bind_some, g1, Bool.not_true, Bool.false_eq_true, if_false, w1]
end
theorem impl_ends {env : Sl DNamed} {s : ByteArray} (me : Bool) {p : DPattern} {starts : Sl (Iv .i64)} (hs : s.size ≤ 200) (hE : ∀ x ∈ env.l, VP x.Pattern) (hEl : env.l.length ≤ 40) (hv : VP p) (hst : ∀ x ∈ starts.l, 0 ≤ x.v ∧ x.v ≤ s.size) (hl : starts.l.length ≤ 1000) {f : Int} (hf : 0 ≤ f ∧ f ≤ 20000) :
  ∃ S', IMF p starts (0, env, s, f, 0, 0, 0, me, 0, ⟨true, []⟩, ⟨true, []⟩, ⟨true, []⟩) = some (cu_ S') ∧ S'.matches_.l.length ≤ 60 := by
 obtain ⟨F, rfl⟩ : ∃ F : Nat, f = F := ⟨f.toNat, by omega⟩
 have e0 : (F : Int) - F = 0 := by omega
 have hI : Inv s F F (⟨true, []⟩ : Sl DCapture) ⟨true, []⟩ ⟨true, []⟩ ⟨false, [⟨⟨0, 0, ⟨#[]⟩, ⟨true, []⟩⟩, 0, 0⟩]⟩ ⟨true, []⟩ ⟨true, []⟩ ⟨false, []⟩ := ⟨by omega, Nat.le_refl _, rfl, rfl, by decide, kq_.nil, by decide, by simp; omega⟩
 cases me with
 | true =>
  obtain ⟨S', h1, h2⟩ := kC_ (Q := QS) (F := F) (fun M start c _ => mu_ (Q := QS) (C := []) rfl rfl rfl) hs hE hEl hv hst hl starts.l.length 0 (by omega) F _ _ _ _ _ 0 hI
  rw [e0, show ((0 : Nat) : Int) = 0 from rfl] at h1
  exact ⟨S', h1, h2⟩
 | false =>
  obtain ⟨S', h1, h2⟩ := kC_ (Q := QA) (F := F) (fun M start c hc => mC_ (C := []) rfl rfl hc) hs hE hEl hv hst hl starts.l.length 0 (by omega) F _ _ _ _ _ 0 hI
  rw [e0, show ((0 : Nat) : Int) = 0 from rfl] at h1
  exact ⟨S', h1, h2⟩
end Nt
end Go.Am
end
