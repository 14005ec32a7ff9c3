/- The law. -/
import Derived.Test.YtnihabnkoegdjaaAg1
import Derived.Test.YtnihabnkoegdjaaAg2
import Derived.Test.YtnihabnkoegdjaaAg3
import Derived.Test.YtnihabnkoegdjaaAl3
section
set_option maxRecDepth 100000
set_option maxHeartbeats 2000000
set_option linter.unusedVariables false
set_option linter.unusedSimpArgs false
namespace Go.Am
namespace Nt
abbrev PhiT := Int → aa_ → Option (Bool × aa_)
def EE : Nat := 30002
structure MdQ where
 mo : Int
 me : Bool
 md : Int
abbrev sI (Q : MdQ) (env : Sl DNamed) (s : ByteArray) (F : Nat) (st start : Int) (nw cd : Sl DCapture) (mt : Sl DMatch) : aa_ := ⟨env, s, (F : Int), st, start, nw, cd, mt, Q.mo, Q.me, T.nilm, 0⟩
abbrev sR (Q : MdQ) (env : Sl DNamed) (s : ByteArray) (F : Nat) (st : Int) (cs : Sl ah_) (ou : Sl DMatch) (nw cd : Sl DCapture) : an_ := ⟨env, s, (F : Int), Q.md, st, cs, ou, nw, cd, false, false, false, 0⟩
abbrev mkey (x : DMatch) : Int × Int × List DCapture := (x.Start, x.End, x.Captures.l)
structure kq_ (s : ByteArray) (a b : List DMatch) : Prop where
 k : a.map mkey = b.map mkey
 c : ∀ m ∈ a, m.Captures.l.length ≤ 100
 g : ∀ m ∈ a, 0 ≤ m.Start ∧ m.Start ≤ m.End ∧ m.End ≤ s.size
theorem kq_.nil {s : ByteArray} : kq_ s [] [] := ⟨rfl, fun m hm => by simp at hm, fun m hm => by simp at hm⟩
theorem kq_.len {s : ByteArray} {a b : List DMatch} (h : kq_ s a b) : a.length = b.length := by
 have := congrArg List.length h.k
 simpa using this
structure Inv (s : ByteArray) (F M : Nat) (nw cd : Sl DCapture) (mt : Sl DMatch) (cs : Sl ah_) (ou : Sl DMatch) (nw2 cd2 : Sl DCapture) : Prop where
 hF : F ≤ 20000
 hM : M ≤ F
 nwE : nw.l = nw2.l
 cdE : cd.l = cd2.l
 hcap : nw.l.length + cd.l.length ≤ 100
 mtE : kq_ s mt.l ou.l
 hml : mt.l.length ≤ 60
 hcl : cs.l.length + M ≤ F + 1
theorem Inv.hnw {s : ByteArray} {F M : Nat} {nw cd : Sl DCapture} {mt : Sl DMatch} {cs : Sl ah_} {ou : Sl DMatch} {nw2 cd2 : Sl DCapture} (h : Inv s F M nw cd mt cs ou nw2 cd2) : nw.l.length = nw2.l.length := by rw [h.nwE]
theorem Inv.hcd {s : ByteArray} {F M : Nat} {nw cd : Sl DCapture} {mt : Sl DMatch} {cs : Sl ah_} {ou : Sl DMatch} {nw2 cd2 : Sl DCapture} (h : Inv s F M nw cd mt cs ou nw2 cd2) : cd.l.length = cd2.l.length := by rw [h.cdE]
theorem Inv.len {s : ByteArray} {F M : Nat} {nw cd : Sl DCapture} {mt : Sl DMatch} {cs : Sl ah_} {ou : Sl DMatch} {nw2 cd2 : Sl DCapture} (h : Inv s F M nw cd mt cs ou nw2 cd2) : mt.l.length = ou.l.length := by
 exact h.mtE.len
def Fin (Q : MdQ) (S : aa_) (r : an_) : Prop :=
 (r.code_ ≠ 0 ∧ S.code_ = r.code_ ∧ S.matches_.l = []) ∨ (r.code_ = 0 ∧ r.full_ = true ∧ r.stop_ = true ∧ S.code_ = 6 ∧ kq_ r.s_ S.matches_.l r.out_.l ∧ S.matches_.l.length ≤ 60 ∧ Q.me = false) ∨
 (r.code_ = 0 ∧ r.full_ = false ∧ r.abort_ = true ∧ S.code_ = 0 ∧ kq_ r.s_ S.matches_.l r.out_.l ∧ S.matches_.l.length ≤ 60 ∧ S.steps_ = r.steps_)
theorem Fin.over {Q : MdQ} {S : aa_} {r : an_} (h : Fin Q S r) : r.abort_ = true ∨ r.stop_ = true ∨ r.code_ ≠ 0 := by
 rcases h with h | h | h
 ·exact .inr (.inr h.1)
 ·exact .inr (.inl h.2.2.1)
 ·exact .inl h.2.2.1
structure Post (Q : MdQ) (env : Sl DNamed) (s : ByteArray) (F : Nat) (b : Bool) (M : Nat) (start : Int) (cd : Sl DCapture) (cs : Sl ah_) (cd2 : Sl DCapture) (S' : aa_) (r' : an_) : Prop where
 hs : r'.s_ = s
 hcs : ∃ x, r'.conts_.l = cs.l ++ x
 c1 : cd.l.length ≤ S'.conds_.l.length
 c2 : cd2.l.length ≤ r'.conds_.l.length
 go : b = true → ∃ M' nw' cd' mt' cs' ou' nw2' cd2', M' ≤ M ∧ S' = sI Q env s F ((F : Int) - M') start nw' cd' mt' ∧ r' = sR Q env s F ((F : Int) - M') cs' ou' nw2' cd2' ∧ Inv s F M' nw' cd' mt' cs' ou' nw2' cd2' ∧ cd'.l.length = cd.l.length
 no : b = false → Fin Q S' r'
 c3 : r'.conds_.l.length ≤ 200
 c4 : b = true → (r'.conts_.l.length : Int) + ((F : Int) - r'.steps_) ≤ cs.l.length + M
def KOk (Q : MdQ) (env : Sl DNamed) (s : ByteArray) (F M k : Nat) (start : Int) (Φ : PhiT) (C : List ah_) (c0 : Nat) : Prop :=
 ∀ M', M' ≤ M → ∀ nw cd mt cs ou nw2 cd2 (e n : Nat), Inv s F M' nw cd mt cs ou nw2 cd2 → (∃ x, cs.l = C ++ x) → c0 ≤ e → e ≤ s.size → M' * EE + k + 2 ≤ n →
  ∃ b S' r', Φ (e : Int) (sI Q env s F ((F : Int) - M') start nw cd mt) = some (b, S') ∧ (BG_spec_l12Run_at n).2 (sR Q env s F ((F : Int) - M') cs ou nw2 cd2) (k : Int) (e : Int) = some ((), r') ∧ Post Q env s F b M' start cd cs cd2 S' r'
def AtOk (Q : MdQ) (env : Sl DNamed) (s : ByteArray) (F M : Nat) : Prop :=
 ∀ start nw cd mt cs ou nw2 cd2 p (c k : Nat) Φ (n1 n2 : Nat), Inv s F M nw cd mt cs ou nw2 cd2 → VP p → c ≤ s.size → k < cs.l.length → KOk Q env s F M k start Φ cs.l c → 2 * M + 1 ≤ n1 → M * EE + 1 ≤ n2 →
  ∃ b S' r', (BG_impl_search_match n1).1 (sI Q env s F ((F : Int) - M) start nw cd mt) p (c : Int) Φ = some (b, S') ∧ (BG_spec_l12Run_at n2).1 (sR Q env s F ((F : Int) - M) cs ou nw2 cd2) p (c : Int) (k : Int) = some ((), r') ∧ Post Q env s F b M start cd cs cd2 S' r'
theorem KOk.mono {Q : MdQ} {env : Sl DNamed} {s : ByteArray} {F M M2 k : Nat} {start : Int} {Φ : PhiT} {C C2 : List ah_} {c0 c2 : Nat} (h : KOk Q env s F M k start Φ C c0) (hM : M2 ≤ M) (hC : ∃ x, C2 = C ++ x) (hc : c0 ≤ c2) : KOk Q env s F M2 k start Φ C2 c2 := by
 intro M' hM' nw cd mt cs ou nw2 cd2 e n hi hx he hes hn
 obtain ⟨x, rfl⟩ := hC
 obtain ⟨y, hy⟩ := hx
 exact h M' (by omega) nw cd mt cs ou nw2 cd2 e n hi ⟨x ++ y, by rw [hy, List.append_assoc]⟩ (by omega) hes hn
theorem Post.trans {Q : MdQ} {env : Sl DNamed} {s : ByteArray} {F : Nat} {b : Bool} {M M2 : Nat} {start : Int} {cd cda : Sl DCapture} {cs csa : Sl ah_} {cd2 cd2a : Sl DCapture} {S' : aa_} {r' : an_}
  (h : Post Q env s F b M2 start cda csa cd2a S' r') (hM : M2 ≤ M) (hcs : ∃ x, csa.l = cs.l ++ x) (h1 : cda.l.length = cd.l.length) (h2 : cd2.l.length ≤ cd2a.l.length) (h4 : csa.l.length + M2 ≤ cs.l.length + M) : Post Q env s F b M start cd cs cd2 S' r' := by
 obtain ⟨x, hx⟩ := hcs
 obtain ⟨y, hy⟩ := h.hcs
 refine ⟨h.hs, ⟨x ++ y, by rw [hy, hx, List.append_assoc]⟩, by have := h.c1; omega, by have := h.c2; omega, fun hb => ?_, h.no, h.c3, fun hb => by have := h.c4 hb; omega⟩
 obtain ⟨M', nw', cd', mt', cs', ou', nw2', cd2', g1, g2, g3, g4, g5⟩ := h.go hb
 exact ⟨M', nw', cd', mt', cs', ou', nw2', cd2', by omega, g2, g3, g4, by omega⟩
section
variable {Q : MdQ} {env : Sl DNamed} {s : ByteArray} {F M : Nat} {start : Int} {nw cd : Sl DCapture} {mt : Sl DMatch} {cs : Sl ah_} {ou : Sl DMatch} {nw2 cd2 : Sl DCapture}
theorem e1_ (hi : Inv s F M nw cd mt cs ou nw2 cd2) : Post Q env s F true M start cd cs cd2 (sI Q env s F ((F : Int) - M) start nw cd mt) (sR Q env s F ((F : Int) - M) cs ou nw2 cd2) :=
 ⟨rfl, ⟨[], by simp⟩, Nat.le_refl _, Nat.le_refl _, fun _ => ⟨M, nw, cd, mt, cs, ou, nw2, cd2, Nat.le_refl _, rfl, rfl, hi, rfl⟩, (fun h => by cases h), by have := hi.hcap; have := hi.hcd; show cd2.l.length ≤ 200; omega, fun _ => by show (cs.l.length : Int) + ((F : Int) - ((F : Int) - M)) ≤ cs.l.length + M; omega⟩
theorem qn_ (R1 R2 : aa_ → DPattern → Int → PhiT → Option (Bool × aa_)) (p : DPattern) (c : Int) (Φ : PhiT) : ac_ R1 R2 (sI Q env s F (F : Int) start nw cd mt) p c Φ = some (false, ⟨env, s, F, F, start, nw, cd, ⟨true, []⟩, Q.mo, Q.me, T.nilm, 7⟩) := by
 unfold ac_
 simp
theorem o8_ (R1 : an_ → DPattern → Int → Int → Option (Unit × an_)) (R2 : an_ → Int → Int → Option (Unit × an_)) (p : DPattern) (c k : Int) : af_ R1 R2 (sR Q env s F (F : Int) cs ou nw2 cd2) p c k = some ((), ⟨env, s, F, Q.md, F, cs, ou, nw2, cd2, false, false, false, 7⟩) := by
 unfold af_
 simp
theorem at_zero : AtOk Q env s F 0 := by
 intro start nw cd mt cs ou nw2 cd2 p c k Φ n1 n2 hi hv hc hk hK h1 h2
 obtain ⟨n1, rfl⟩ : ∃ m, n1 = m + 1 := ⟨n1 - 1, by omega⟩
 obtain ⟨n2, rfl⟩ : ∃ m, n2 = m + 1 := ⟨n2 - 1, by omega⟩
 have e : (F : Int) - (0 : Nat) = F := by simp
 rw [e]
 exact ⟨false, _, _, qn_ _ _ p c Φ, o8_ _ _ p c k, rfl, ⟨[], by simp⟩, Nat.le_refl _, Nat.le_refl _, (fun h => by cases h), fun _ => .inl ⟨show (7 : Int) ≠ 0 by decide, rfl, rfl⟩, by have := hi.hcap; have := hi.hcd; show cd2.l.length ≤ 200; omega, (fun h => by cases h)⟩
theorem mu_ (hme : Q.me = true) (hmd : Q.md = 3) {C : List ah_} {x : ah_} (hx : x.p_.Kind = 0) {c0 : Nat} : KOk Q env s F M 0 start (fun e (S : aa_) => ak_ S e) (x :: C) c0 := by
 obtain ⟨qo, qe, qd⟩ := Q
 dsimp only at hme hmd
 subst hme; subst hmd
 intro M' hM' nw cd mt cs ou nw2 cd2 e n hi hpre hce hes hn
 obtain ⟨n, rfl⟩ : ∃ m, n = m + 1 := ⟨n - 1, by omega⟩
 obtain ⟨C2, hC⟩ := hpre
 have hel : elt cs 0 = some x := by
  show elt cs ((0 : Nat) : Int) = _
  exact jY_ (by rw [hC]; rfl)
 show ∃ b S' r', ak_ _ _ = _ ∧ aw_ _ _ _ _ _ = _ ∧ _
 unfold ak_ aw_
 simp only [Int.natCast_zero, hel, Option.bind_some, hx]
 cases M' with
 | zero =>
  simp only [Int.natCast_zero, Int.sub_zero, decide_true, if_true, Option.bind_some, Bool.false_eq_true, if_false, Bool.not_false, Int.le_refl]
  exact ⟨false, _, _, rfl, by simp; rfl, rfl, ⟨[], by simp⟩, Nat.le_refl _, Nat.le_refl _, (fun h => by cases h), fun _ => .inl ⟨by simp, rfl, rfl⟩, by have := hi.hcap; have := hi.hcd; show cd2.l.length ≤ 200; omega, (fun h => by cases h)⟩
 | succ M' =>
  have hMF := hi.hM
  have hF := hi.hF
  have w1 : w4 ((F : Int) - ((M' + 1 : Nat) : Int) + 1) = (F : Int) - M' := by
   rw [aS_ (by omega) (by omega)]; omega
  have d1 : decide ((F : Int) - ((M' + 1 : Nat) : Int) = (F : Int)) = false := by simp; omega
  have d2 : decide ((F : Int) ≤ (F : Int) - ((M' + 1 : Nat) : Int)) = false := by simp; omega
  simp only [d1, d2, w1, Bool.false_eq_true, if_false, Option.bind_some, Bool.not_true, if_true]
  refine ⟨true, _, _, rfl, by simp, rfl, ⟨[], by simp⟩, Nat.le_refl _, Nat.le_refl _, fun _ => ⟨M', nw, cd, mt, cs, ou, nw2, cd2, by omega, rfl, rfl, ⟨hF, by omega, hi.nwE, hi.cdE, hi.hcap, hi.mtE, hi.hml, by have := hi.hcl; omega⟩, rfl⟩, (fun h => by cases h), by have := hi.hcap; have := hi.hcd; show cd2.l.length ≤ 200; omega, fun _ => by show (cs.l.length : Int) + ((F : Int) - ((F : Int) - M')) ≤ cs.l.length + ((M' + 1 : Nat) : Int); omega⟩
end
end Nt
end Go.Am
end
