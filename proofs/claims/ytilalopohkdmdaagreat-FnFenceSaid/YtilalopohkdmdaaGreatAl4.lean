/- The law. -/
import Derived.Test.YtilalopohkdmdaaGreatAg1
import Derived.Test.YtilalopohkdmdaaGreatAg2
import Derived.Test.YtilalopohkdmdaaGreatAg4
import Derived.Test.YtilalopohkdmdaaGreatAg3
import Derived.Test.YtilalopohkdmdaaGreatAl3
section
set_option maxRecDepth 100000
set_option maxHeartbeats 2000000
set_option linter.unusedVariables false
set_option linter.unusedSimpArgs false
namespace Go.Am
abbrev PhiT := Int → aa_ → Option (Bool × aa_)
def EE : Nat := 30002
abbrev sI (env : Sl DNamed) (s : ByteArray) (F : Nat) (st start : Int) (nw cd : Sl DCapture) (mt : Sl DMatch) : aa_ := ⟨env, s, (F : Int), st, start, nw, cd, mt, 0, false, T.nilm, 0⟩
abbrev sR (env : Sl DNamed) (s : ByteArray) (F : Nat) (st : Int) (cs : Sl ah_) (ou : Sl DMatch) (nw cd : Sl DCapture) : an_ := ⟨env, s, (F : Int), 1, st, cs, ou, nw, cd, false, false, false, 0⟩
abbrev mkey (x : DMatch) : Int × Int × List DCapture := (x.Start, x.End, x.Captures.l)
structure gb_ (s : ByteArray) (a b : List DMatch) : Prop where
 k : a.map mkey = b.map mkey
 c : ∀ m ∈ a, m.Captures.l.length ≤ 100
 g : ∀ m ∈ a, 0 ≤ m.Start ∧ m.Start ≤ m.End ∧ m.End ≤ s.size
theorem gb_.nil {s : ByteArray} : gb_ s [] [] := ⟨rfl, fun m hm => by simp at hm, fun m hm => by simp at hm⟩
theorem gb_.ends {s : ByteArray} {a b : List DMatch} (h : gb_ s a b) : a.map (fun x => x.End) = b.map (fun x => x.End) := by
 have := congrArg (List.map fun x : Int × Int × List DCapture => x.2.1) h.k
 simpa [Function.comp_def] using this
theorem gb_.len {s : ByteArray} {a b : List DMatch} (h : gb_ s a b) : a.length = b.length := by
 have := congrArg List.length h.k
 simpa using this
structure Inv (s : ByteArray) (F M : Nat) (nw cd : Sl DCapture) (mt : Sl DMatch) (cs : Sl ah_) (ou : Sl DMatch) (nw2 cd2 : Sl DCapture) : Prop where
 hF : F ≤ 20000
 hM : M ≤ F
 nwE : nw.l = nw2.l
 cdE : cd.l = cd2.l
 hcap : nw.l.length + cd.l.length ≤ 100
 mtE : gb_ s mt.l ou.l
 hml : mt.l.length ≤ 60
 hcl : cs.l.length + M ≤ F + 1
theorem Inv.hnw {s : ByteArray} {F M : Nat} {nw cd : Sl DCapture} {mt : Sl DMatch} {cs : Sl ah_} {ou : Sl DMatch} {nw2 cd2 : Sl DCapture} (h : Inv s F M nw cd mt cs ou nw2 cd2) : nw.l.length = nw2.l.length := by rw [h.nwE]
theorem Inv.hcd {s : ByteArray} {F M : Nat} {nw cd : Sl DCapture} {mt : Sl DMatch} {cs : Sl ah_} {ou : Sl DMatch} {nw2 cd2 : Sl DCapture} (h : Inv s F M nw cd mt cs ou nw2 cd2) : cd.l.length = cd2.l.length := by rw [h.cdE]
theorem Inv.len {s : ByteArray} {F M : Nat} {nw cd : Sl DCapture} {mt : Sl DMatch} {cs : Sl ah_} {ou : Sl DMatch} {nw2 cd2 : Sl DCapture} (h : Inv s F M nw cd mt cs ou nw2 cd2) : mt.l.length = ou.l.length := by
 exact h.mtE.len
def Fin (S : aa_) (r : an_) : Prop :=
 (r.code_ ≠ 0 ∧ S.code_ = r.code_ ∧ S.matches_.l = []) ∨ (r.code_ = 0 ∧ r.full_ = true ∧ r.stop_ = true ∧ S.code_ = 6 ∧ gb_ r.s_ S.matches_.l r.out_.l ∧ S.matches_.l.length ≤ 60) ∨
 (r.code_ = 0 ∧ r.full_ = false ∧ r.abort_ = true ∧ S.code_ = 0 ∧ gb_ r.s_ S.matches_.l r.out_.l ∧ S.matches_.l.length ≤ 60)
theorem Fin.over {S : aa_} {r : an_} (h : Fin S r) : r.abort_ = true ∨ r.stop_ = true ∨ r.code_ ≠ 0 := by
 rcases h with h | h | h
 ·exact .inr (.inr h.1)
 ·exact .inr (.inl h.2.2.1)
 ·exact .inl h.2.2.1
structure Post (env : Sl DNamed) (s : ByteArray) (F : Nat) (b : Bool) (M : Nat) (start : Int) (cd : Sl DCapture) (cs : Sl ah_) (cd2 : Sl DCapture) (S' : aa_) (r' : an_) : Prop where
 hs : r'.s_ = s
 hcs : ∃ x, r'.conts_.l = cs.l ++ x
 c1 : cd.l.length ≤ S'.conds_.l.length
 c2 : cd2.l.length ≤ r'.conds_.l.length
 go : b = true → ∃ M' nw' cd' mt' cs' ou' nw2' cd2', M' ≤ M ∧ S' = sI env s F ((F : Int) - M') start nw' cd' mt' ∧ r' = sR env s F ((F : Int) - M') cs' ou' nw2' cd2' ∧ Inv s F M' nw' cd' mt' cs' ou' nw2' cd2' ∧ cd'.l.length = cd.l.length
 no : b = false → Fin S' r'
 c3 : r'.conds_.l.length ≤ 200
 c4 : b = true → (r'.conts_.l.length : Int) + ((F : Int) - r'.steps_) ≤ cs.l.length + M
def KOk (env : Sl DNamed) (s : ByteArray) (F M k : Nat) (start : Int) (Φ : PhiT) (C : List ah_) (c0 : Nat) : Prop :=
 ∀ M', M' ≤ M → ∀ nw cd mt cs ou nw2 cd2 (e n : Nat), Inv s F M' nw cd mt cs ou nw2 cd2 → (∃ x, cs.l = C ++ x) → c0 ≤ e → e ≤ s.size → M' * EE + k + 2 ≤ n →
  ∃ b S' r', Φ (e : Int) (sI env s F ((F : Int) - M') start nw cd mt) = some (b, S') ∧ (BG_spec_l12Run_at n).2 (sR env s F ((F : Int) - M') cs ou nw2 cd2) (k : Int) (e : Int) = some ((), r') ∧ Post env s F b M' start cd cs cd2 S' r'
def AtOk (env : Sl DNamed) (s : ByteArray) (F M : Nat) : Prop :=
 ∀ start nw cd mt cs ou nw2 cd2 p (c k : Nat) Φ (n1 n2 : Nat), Inv s F M nw cd mt cs ou nw2 cd2 → VP p → c ≤ s.size → k < cs.l.length → KOk env s F M k start Φ cs.l c → 2 * M + 1 ≤ n1 → M * EE + 1 ≤ n2 →
  ∃ b S' r', (BG_impl_search_match n1).1 (sI env s F ((F : Int) - M) start nw cd mt) p (c : Int) Φ = some (b, S') ∧ (BG_spec_l12Run_at n2).1 (sR env s F ((F : Int) - M) cs ou nw2 cd2) p (c : Int) (k : Int) = some ((), r') ∧ Post env s F b M start cd cs cd2 S' r'
theorem KOk.mono {env : Sl DNamed} {s : ByteArray} {F M M2 k : Nat} {start : Int} {Φ : PhiT} {C C2 : List ah_} {c0 c2 : Nat} (h : KOk env s F M k start Φ C c0) (hM : M2 ≤ M) (hC : ∃ x, C2 = C ++ x) (hc : c0 ≤ c2) : KOk env s F M2 k start Φ C2 c2 := by
 intro M' hM' nw cd mt cs ou nw2 cd2 e n hi hx he hes hn
 obtain ⟨x, rfl⟩ := hC
 obtain ⟨y, hy⟩ := hx
 exact h M' (by omega) nw cd mt cs ou nw2 cd2 e n hi ⟨x ++ y, by rw [hy, List.append_assoc]⟩ (by omega) hes hn
theorem Post.trans {env : Sl DNamed} {s : ByteArray} {F : Nat} {b : Bool} {M M2 : Nat} {start : Int} {cd cda : Sl DCapture} {cs csa : Sl ah_} {cd2 cd2a : Sl DCapture} {S' : aa_} {r' : an_}
  (h : Post env s F b M2 start cda csa cd2a S' r') (hM : M2 ≤ M) (hcs : ∃ x, csa.l = cs.l ++ x) (h1 : cda.l.length = cd.l.length) (h2 : cd2.l.length ≤ cd2a.l.length) (h4 : csa.l.length + M2 ≤ cs.l.length + M) : Post env s F b M start cd cs cd2 S' r' := by
 obtain ⟨x, hx⟩ := hcs
 obtain ⟨y, hy⟩ := h.hcs
 refine ⟨h.hs, ⟨x ++ y, by rw [hy, hx, List.append_assoc]⟩, by have := h.c1; omega, by have := h.c2; omega, fun hb => ?_, h.no, h.c3, fun hb => by have := h.c4 hb; omega⟩
 obtain ⟨M', nw', cd', mt', cs', ou', nw2', cd2', g1, g2, g3, g4, g5⟩ := h.go hb
 exact ⟨M', nw', cd', mt', cs', ou', nw2', cd2', by omega, g2, g3, g4, by omega⟩
section
variable {env : Sl DNamed} {s : ByteArray} {F M : Nat} {start : Int} {nw cd : Sl DCapture} {mt : Sl DMatch} {cs : Sl ah_} {ou : Sl DMatch} {nw2 cd2 : Sl DCapture}
theorem e0_ (hi : Inv s F M nw cd mt cs ou nw2 cd2) : Post env s F true M start cd cs cd2 (sI env s F ((F : Int) - M) start nw cd mt) (sR env s F ((F : Int) - M) cs ou nw2 cd2) :=
 ⟨rfl, ⟨[], by simp⟩, Nat.le_refl _, Nat.le_refl _, fun _ => ⟨M, nw, cd, mt, cs, ou, nw2, cd2, Nat.le_refl _, rfl, rfl, hi, rfl⟩, (fun h => by cases h), by have := hi.hcap; have := hi.hcd; show cd2.l.length ≤ 200; omega, fun _ => by show (cs.l.length : Int) + ((F : Int) - ((F : Int) - M)) ≤ cs.l.length + M; omega⟩
theorem qw_ (R1 R2 : aa_ → DPattern → Int → PhiT → Option (Bool × aa_)) (p : DPattern) (c : Int) (Φ : PhiT) : ac_ R1 R2 (sI env s F (F : Int) start nw cd mt) p c Φ = some (false, ⟨env, s, F, F, start, nw, cd, ⟨true, []⟩, 0, false, T.nilm, 7⟩) := by
 unfold ac_
 simp
theorem oq_ (R1 : an_ → DPattern → Int → Int → Option (Unit × an_)) (R2 : an_ → Int → Int → Option (Unit × an_)) (p : DPattern) (c k : Int) : af_ R1 R2 (sR env s F (F : Int) cs ou nw2 cd2) p c k = some ((), ⟨env, s, F, 1, F, cs, ou, nw2, cd2, false, false, false, 7⟩) := by
 unfold af_
 simp
theorem at_zero : AtOk env s F 0 := by
 intro start nw cd mt cs ou nw2 cd2 p c k Φ n1 n2 hi hv hc hk hK h1 h2
 obtain ⟨n1, rfl⟩ : ∃ m, n1 = m + 1 := ⟨n1 - 1, by omega⟩
 obtain ⟨n2, rfl⟩ : ∃ m, n2 = m + 1 := ⟨n2 - 1, by omega⟩
 have e : (F : Int) - (0 : Nat) = F := by simp
 rw [e]
 exact ⟨false, _, _, qw_ _ _ p c Φ, oq_ _ _ p c k, rfl, ⟨[], by simp⟩, Nat.le_refl _, Nat.le_refl _, (fun h => by cases h), fun _ => .inl ⟨show (7 : Int) ≠ 0 by decide, rfl, rfl⟩, by have := hi.hcap; have := hi.hcd; show cd2.l.length ≤ 200; omega, (fun h => by cases h)⟩
theorem nN_ (a b : Sl DCapture) (h : a.l.length + b.l.length ≤ 100) : ∃ y, b8_ ⟨false, [a, b]⟩ = some y ∧ y.l = a.l ++ b.l := by
 suffices H : ∃ y, bv_ ⟨false, [a, b]⟩ = some y ∧ y.l = a.l ++ b.l by
  obtain ⟨y, hy, hl⟩ := H; exact ⟨y, e8_ _ y hy, hl⟩
 unfold bv_
 have l1 : aD_ (S := (Int × Int)) (R := Int) (fun st1 => (if (decide (st1.2 < ((⟨false, [a, b]⟩ : Sl (Sl DCapture)).l.length : Int))) = true then ((elt (⟨false, [a, b]⟩ : Sl (Sl DCapture)) st1.2).bind fun y2 => (if (decide ((w4 (st1.1 + (y2.l.length : Int))) < 0)) = true then none else (some (.inl ((w4 (st1.1 + (y2.l.length : Int))), (w4 (st1.2 + 1))))))) else (some (.inr st1.1)))) (0, 0) = some ((a.l.length : Int) + (b.l.length : Int)) := by
  refine aB_ (s' := ((a.l.length : Int), 1)) ?_ (aB_ (s' := ((a.l.length : Int) + (b.l.length : Int), 2)) ?_ (aq_ rfl))
  ·show (if decide ((w4 (0 + (a.l.length : Int))) < 0) = true then none else some (Sum.inl (w4 (0 + (a.l.length : Int)), w4 (0 + 1)))) = _
   rw [aY_ (by omega) (by omega), if_neg (by simp <;> omega), aY_ (by omega) (by omega), Int.zero_add]; rfl
  ·show (if decide ((w4 ((a.l.length : Int) + (b.l.length : Int))) < 0) = true then none else some (Sum.inl (w4 ((a.l.length : Int) + (b.l.length : Int)), w4 (1 + 1)))) = _
   rw [aY_ (by omega) (by omega), if_neg (by simp; omega), aY_ (by omega) (by omega)]; rfl
 have app : ∀ (x y : Sl DCapture), x.l.length + y.l.length ≤ 100 → ∃ w, appS 48 x y = some w ∧ w.l = x.l ++ y.l ∧ (x.z = false → w.z = false) := fun x y hxy => by
  unfold appS
  cases hy : y.l with
  | nil => exact ⟨x, rfl, by simp, id⟩
  | cons q l => rw [hy] at hxy; exact ⟨⟨false, x.l ++ (q :: l)⟩, by rw [if_pos (by omega)], rfl, fun _ => rfl⟩
 have l2 : ∀ z, ∃ w, aD_ (S := (Int × (Sl DCapture))) (R := (Sl DCapture)) (fun st2 => (if (decide (st2.1 < ((⟨false, [a, b]⟩ : Sl (Sl DCapture)).l.length : Int))) = true then ((elt (⟨false, [a, b]⟩ : Sl (Sl DCapture)) st2.1).bind fun y8 => ((appS 48 st2.2 y8).bind fun y9 => (some (.inl ((w4 (st2.1 + 1)), y9))))) else (some (.inr st2.2)))) (0, ⟨z, []⟩) = some w ∧ w.l = a.l ++ b.l := fun z => by
  obtain ⟨w1, e1, e2, _⟩ := app ⟨z, []⟩ a (by simp; omega)
  obtain ⟨w2, e3, e4, _⟩ := app w1 b (by rw [e2]; simp; omega)
  refine ⟨w2, aB_ (s' := (1, w1)) ?_ (aB_ (s' := (2, w2)) ?_ (aq_ rfl)), by rw [e4, e2]; simp⟩
  ·show ((appS 48 ⟨z, []⟩ a).bind _) = _
   rw [e1]; rfl
  ·show ((appS 48 w1 b).bind _) = _
   rw [e3]; rfl
 rw [l1, Option.bind_some]
 have w0 : w4 ((a.l.length : Int) + (b.l.length : Int) - w4 (0 - 0)) = (a.l.length : Int) + (b.l.length : Int) := by
  rw [show w4 (0 - 0) = 0 from rfl, Int.sub_zero, aY_ (by omega) (by omega)]
 simp only [w0]
 rw [if_neg (by simp; omega), Option.bind_some]
 by_cases hp : 0 < (a.l.length : Int) + (b.l.length : Int)
 ·rw [if_pos (by simpa using hp)]
  have z1 : kt_ 48 ((⟨⟨#[]⟩, ⟨#[]⟩, 0, 0⟩ : DCapture) : DCapture) ((a.l.length : Int) + (b.l.length : Int)) = some ⟨false, List.replicate ((a.l.length : Int) + (b.l.length : Int)).toNat ⟨⟨#[]⟩, ⟨#[]⟩, 0, 0⟩⟩ := by
   unfold kt_; rw [if_pos (by omega)]
  rw [z1, Option.bind_some, if_pos (by simp; omega), Option.bind_some]
  obtain ⟨w, e1, e2⟩ := l2 false
  rw [e1, Option.bind_some, if_pos]
  ·exact ⟨w, rfl, e2⟩
  ·have : w.l.length ≠ 0 := fun h0 => by rw [e2, List.length_append] at h0; omega
   simp [this]
 ·rw [if_neg (by simpa using hp)]
  obtain ⟨w, e1, e2⟩ := l2 true
  exact ⟨w, by rw [e1]; rfl, e2⟩
theorem oo_ {C : List ah_} {x : ah_} (hx : x.p_.Kind = 0) (hxc : x.c_ = start) {c0 : Nat} (hc0 : start = (c0 : Int)) : KOk env s F M 0 start (fun e (S : aa_) => ao_ S e) (x :: C) c0 := by
 intro M' hM' nw cd mt cs ou nw2 cd2 e n hi hpre hce hes hn
 obtain ⟨n, rfl⟩ : ∃ m, n = m + 1 := ⟨n - 1, by omega⟩
 obtain ⟨C2, hC⟩ := hpre
 have hel : elt cs 0 = some x := by
  show elt cs ((0 : Nat) : Int) = _
  exact lu_ (by rw [hC]; rfl)
 have hlen := hi.len
 have hml := hi.hml
 show ∃ b S' r', ao_ _ _ = _ ∧ aw_ _ _ _ _ _ = _ ∧ _
 unfold ao_ aw_
 simp only [Int.natCast_zero, hel, Option.bind_some, hx]
 cases M' with
 | zero =>
  simp only [Int.natCast_zero, Int.sub_zero, decide_true, if_true, Option.bind_some, Bool.false_eq_true, if_false, Bool.not_false, Int.le_refl]
  exact ⟨false, _, _, rfl, by simp; rfl, rfl, ⟨[], by simp⟩, Nat.le_refl _, Nat.le_refl _, (fun h => by cases h), fun _ => .inl ⟨by simp, rfl, rfl⟩, by have := hi.hcap; have := hi.hcd; show cd2.l.length ≤ 200; omega, (fun h => by cases h)⟩
 | succ M' =>
  have hMF := hi.hM
  have hF := hi.hF
  have w1 : w4 ((F : Int) - ((M' + 1 : Nat) : Int) + 1) = (F : Int) - M' := by
   rw [aY_ (by omega) (by omega)]; omega
  have d1 : decide ((F : Int) - ((M' + 1 : Nat) : Int) = (F : Int)) = false := by simp; omega
  have d2 : decide ((F : Int) ≤ (F : Int) - ((M' + 1 : Nat) : Int)) = false := by simp; omega
  simp only [d1, d2, w1, Bool.false_eq_true, if_false, Option.bind_some, Bool.not_true, if_true]
  by_cases h60 : ou.l.length = 60
  ·have d3 : decide ((mt.l.length : Int) = 60) = true := by simp; omega
   have d4 : decide ((60 : Int) ≤ (ou.l.length : Int)) = true := by simp; omega
   simp only [d3, d4, if_true]
   refine ⟨false, _, _, rfl, by simp; rfl, rfl, ⟨[], by simp⟩, Nat.le_refl _, Nat.le_refl _, (fun h => by cases h), fun _ => .inr (.inl ⟨rfl, rfl, rfl, rfl, hi.mtE, hi.hml⟩), by have := hi.hcap; have := hi.hcd; show cd2.l.length ≤ 200; omega, (fun h => by cases h)⟩
  ·have d3 : decide ((mt.l.length : Int) = 60) = false := by simp; omega
   have d4 : decide ((60 : Int) ≤ (ou.l.length : Int)) = false := by simp; omega
   obtain ⟨y, hy, hyl⟩ := nN_ nw cd hi.hcap
   have hcap := hi.hcap
   have hnw := hi.hnw
   have hcd := hi.hcd
   have app : ∀ (x y : Sl DCapture), x.l.length + y.l.length ≤ 100 → ∃ w, appS 48 x y = some w ∧ w.l = x.l ++ y.l := fun x y hxy => by
    unfold appS
    cases hy : y.l with
    | nil => exact ⟨x, rfl, by simp⟩
    | cons q l => rw [hy] at hxy; exact ⟨⟨false, x.l ++ (q :: l)⟩, by rw [if_pos (by omega)], rfl⟩
   obtain ⟨y1, a1, a2⟩ := app ⟨false, []⟩ nw2 (by simp; omega)
   obtain ⟨y2, a3, a4⟩ := app y1 cd2 (by rw [a2]; simp; omega)
   obtain ⟨z1, m1⟩ := mt; obtain ⟨z2, m2⟩ := ou
   have hm1 : m1.length ≤ 60 := hml
   have hm2 : m1.length = m2.length := hlen
   have p1 : appS 40 (⟨z1, m1⟩ : Sl DMatch) ⟨false, [⟨start, (e : Int), y⟩]⟩ = some ⟨false, m1 ++ [⟨start, (e : Int), y⟩]⟩ := bQ_ (by omega)
   have p2 : appS 40 (⟨z2, m2⟩ : Sl DMatch) ⟨false, [⟨x.c_, (e : Int), y2⟩]⟩ = some ⟨false, m2 ++ [⟨x.c_, (e : Int), y2⟩]⟩ := bQ_ (by omega)
   have d5 : decide ((((m1 ++ [(⟨start, (e : Int), y⟩ : DMatch)]).length : Nat) : Int) = 0) = false := by simp; omega
   simp only [d3, d4, Bool.false_eq_true, if_false, hy, a1, a3, p1, p2, Option.bind_some, d5]
   refine ⟨true, _, _, rfl, by simp; rfl, rfl, ⟨[], by simp⟩, Nat.le_refl _, Nat.le_refl _, fun _ => ⟨M', nw, cd, _, cs, _, nw2, cd2, by omega, rfl, rfl, ⟨hF, by omega, hi.nwE, hi.cdE, hi.hcap, ?_, ?_, by have := hi.hcl; omega⟩, rfl⟩, (fun h => by cases h), by have := hi.hcap; have := hi.hcd; show cd2.l.length ≤ 200; omega, fun _ => by show (cs.l.length : Int) + ((F : Int) - ((F : Int) - M')) ≤ cs.l.length + ((M' + 1 : Nat) : Int); omega⟩
   ·have hm : m1.map mkey = m2.map mkey := hi.mtE.k
    have ek : mkey ⟨start, (e : Int), y⟩ = mkey ⟨x.c_, (e : Int), y2⟩ := by
     show (start, (e : Int), y.l) = (x.c_, (e : Int), y2.l)
     rw [hxc, hyl, a4, a2, hi.nwE, hi.cdE, List.nil_append]
    refine ⟨?_, fun m hmm => ?_, fun m hmm => ?_⟩
    ·show (m1 ++ [_]).map mkey = (m2 ++ [_]).map mkey
     rw [List.map_append, List.map_append, hm, List.map_singleton, List.map_singleton, ek]
    ·rcases List.mem_append.1 hmm with h | h
     ·exact hi.mtE.c m h
     ·rw [List.mem_singleton] at h; rw [h]; show y.l.length ≤ 100; rw [hyl, List.length_append]; exact hi.hcap
    ·rcases List.mem_append.1 hmm with h | h
     ·exact hi.mtE.g m h
     ·rw [List.mem_singleton] at h; rw [h]; show 0 ≤ start ∧ start ≤ (e : Int) ∧ (e : Int) ≤ s.size; omega
   ·show (m1 ++ [_]).length ≤ 60
    simp only [List.length_append, List.length_cons, List.length_nil]
    have h60 : ¬ m2.length = 60 := h60
    omega
end
end Go.Am
end
