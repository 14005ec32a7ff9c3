/- The law. -/
import Derived.Test.YtilalopohkdmdaaGreatAg0
import Derived.Test.YtilalopohkdmdaaGreatAg1
import Derived.Test.YtilalopohkdmdaaGreatAg2
import Derived.Test.YtilalopohkdmdaaGreatAl14
import Derived.Test.YtilalopohkdmdaaGreatAl19
import Derived.Test.YtilalopohkdmdaaGreatAl21
section
set_option maxRecDepth 100000
set_option maxHeartbeats 1000000
set_option linter.unusedVariables false
set_option linter.unusedSimpArgs false
namespace Go.Am
abbrev wB : ByteArray := ⟨#[119]⟩
def kZ_ (s : ByteArray) (m : DMatch) : Prop := ∃ (nw cd : List DCapture) (x : DCapture), m.Captures.l = nw ++ (cd ++ [x]) ∧ (∀ y ∈ nw, y.Kind ≠ 1) ∧ (∀ y ∈ cd ++ [x], y.Kind = 1 ∧ iF_ s m.Start m.End y) ∧ (cd ++ [x]).Pairwise (fun x y => x.Cursor ≤ y.Cursor) ∧ nw.length + (cd ++ [x]).length ≤ 100 ∧ x = ⟨wB, s.extract m.Start.toNat m.End.toNat, m.End, 1⟩ ∧ 0 ≤ m.Start ∧ m.Start ≤ m.End ∧ m.End ≤ s.size
theorem oM_ {s : ByteArray} {st e : Int} {S : aa_} (h0 : 0 ≤ st ∧ st ≤ e ∧ e ≤ s.size) (hs : Cs s st e S) (hx : ∃ l, S.conds_.l = l ++ [⟨wB, s.extract st.toNat e.toNat, e, 1⟩]) : Gv (as_ S e) (Uc (kZ_ s) S) := by
 unfold as_
 refine bK_ (fun _ => aG_ (st_q _ _ _ _) fun y hy => ?_) fun _ => aG_ (st_q _ _ _ _) fun y hy => ?_
 ·obtain ⟨b, t, cd, mt⟩ := y
  rcases hy with ⟨rfl, h⟩ | ⟨rfl, h, h'⟩
  ·exact ax_ (Uc.off ⟨rfl, rfl, rfl⟩ (by show cd ≠ 0; intro w; simp only at h; omega))
  ·simp only at h h'; subst h h'
   exact ax_ ⟨⟨rfl, rfl, rfl⟩, fun _ => ⟨hs.co, hs.cap.len, hs.cap.kn, rfl⟩, fun _ => ⟨[], by simp, fun m hm => by simp at hm⟩⟩
 ·obtain ⟨b, t, cd, mt⟩ := y
  rcases hy with ⟨rfl, h⟩ | ⟨rfl, h, h'⟩
  ·exact bK_ (fun _ => ax_ (Uc.off ⟨rfl, rfl, rfl⟩ (by show cd ≠ 0; intro w; simp only at h; omega))) fun w => absurd rfl w
  ·simp only at h h'; subst h h'
   refine bK_ (fun w => by cases w) fun _ => bK_ (fun _ => ax_ (Uc.off ⟨rfl, rfl, rfl⟩ (by show (6 : Int) ≠ 0; decide))) fun _ => aG_ (Q := fun y => y.l = S.now_.l ++ S.conds_.l) ?_ fun y hy => aG_ app1 fun q hq => ax_ ⟨⟨rfl, rfl, rfl⟩, fun _ => ⟨hs.co, hs.cap.len, hs.cap.kn, rfl⟩, fun _ => ⟨[⟨S.start_, e, y⟩], hq, fun m hm => ?_⟩⟩
   ·obtain ⟨y, y1, y2⟩ := kc_ S.now_ S.conds_ hs.cap.len
    intro r hr
    have hr : br_ ⟨false, [S.now_, S.conds_]⟩ = some r := hr
    rw [y1] at hr
    injection hr with hr
    show r.l = _
    rw [← hr, y2]
   ·rw [List.mem_singleton] at hm; rw [hm]
    obtain ⟨l, hl⟩ := hx
    refine ⟨S.now_.l, l, ⟨wB, s.extract st.toNat e.toNat, e, 1⟩, ?_, hs.cap.kn, ?_, ?_, ?_, ?_, ?_⟩
    ·show y.l = _; rw [hy, hl]
    ·rw [← hl]
     show ∀ y ∈ S.conds_.l, y.Kind = 1 ∧ iF_ s S.start_ e y
     rw [hs.sta]; exact hs.cap.kc
    ·rw [← hl]; exact hs.cap.so
    ·rw [← hl]; exact hs.cap.len
    ·show _ = (⟨wB, s.extract S.start_.toNat e.toNat, e, 1⟩ : DCapture); rw [hs.sta]
    ·show 0 ≤ S.start_ ∧ S.start_ ≤ e ∧ e ≤ s.size; rw [hs.sta]; exact h0
abbrev mn_ (p : DPattern) : DPattern := ⟨21, 0, wB, ⟨false, [p]⟩⟩
theorem qx_ {s : ByteArray} {st : Int} {p : DPattern} (hsz : s.size ≤ 200) (hv : VP p) (h0 : 0 ≤ st ∧ st ≤ s.size) (n : Nat) {S : aa_} (hs : Cs s st st S) : Gv ((BG_impl_search_match (n + 2)).1 S (mn_ p) st (fun e S => as_ S e)) (Uc (kZ_ s) S) := by
 rw [show (BG_impl_search_match (n + 2)).1 S (mn_ p) st (fun e S => as_ S e) = ac_ (BG_impl_search_match (n + 1)).1 (BG_impl_search_match (n + 1)).2 S (mn_ p) st (fun e S => as_ S e) from rfl]
 unfold ac_
 refine aG_ (st_q _ _ _ _) fun y hy => ?_
 obtain ⟨b, t, cd, mt⟩ := y
 rcases hy with ⟨rfl, h⟩ | ⟨rfl, h, h'⟩
 ·exact bK_ (fun _ => ax_ (Uc.off ⟨rfl, rfl, rfl⟩ (by show cd ≠ 0; intro w; simp only at h; omega))) fun w => absurd rfl w
 simp only at h h'; subst h h'
 have dl : decide (0 < (([p] : List DPattern).length : Int)) = true := rfl
 have e0 : elt (⟨false, [p]⟩ : Sl DPattern) 0 = some p := rfl
 simp only [Int.reduceEq, decide_true, decide_false, Bool.false_eq_true, Bool.not_true, Bool.not_false, if_true, if_false, dl]
 rw [bgI2 n]
 unfold an_
 simp only [e0, Option.bind_some, Int.reduceEq, decide_true, decide_false, Bool.false_eq_true, if_true, if_false]
 refine aG_ (Q := Uc (kZ_ s) S) (aG_ ((lv_ (P := kZ_ s) (st := st) hsz n).1 _ p st _ hv h0.1 (Int.le_refl _) h0.2 (⟨hs.sub, hs.sta, hs.env, hs.co, hs.cap⟩ : Cs s st st ⟨S.env_, S.subject_, S.fuel_, t, S.start_, S.now_, S.conds_, S.matches_, S.most_, S.isMere_, T.nilm, S.code_⟩) (o5_ ⟨h0.1, Int.le_refl _⟩ fun e S' h1 h2 h3 h4 => oM_ ⟨h0.1, h1, h2⟩ h3 (h4 (by show (21 : Int) ≠ 22; decide)))) fun r hr => ax_ ⟨hr.k, hr.y, hr.m⟩) fun r hr => ax_ ⟨hr.k, hr.y, hr.m⟩
theorem ow_ {env : Sl DNamed} {s : ByteArray} {f : Int} {p : DPattern} {w : Sl (Iv .i64)} (hsz : s.size ≤ 200) (hE : ∀ x ∈ env.l, VP x.Pattern) (hw : ∀ x ∈ w.l, 0 ≤ x.v ∧ x.v ≤ (s.size : Int)) (hv : VP p) : Gv (IMF (mn_ p) w (St0 env s f)) (fun x => x.2.2.2.2.2.2.2.1 = 0 → ∀ m ∈ x.2.2.2.2.2.2.2.2.2.2.l, kZ_ s m) := by
 unfold IMF
 refine jA_ (fun st : Int × T11 => Cs s (D11 st.2).start_ 0 ⟨(D11 st.2).env_, (D11 st.2).subject_, (D11 st.2).fuel_, (D11 st.2).steps_, (D11 st.2).start_, (D11 st.2).now_, (D11 st.2).conds_, (D11 st.2).matches_, (D11 st.2).most_, (D11 st.2).isMere_, T.nilm, (D11 st.2).code_⟩ ∧ (D11 st.2).conds_.l = [] ∧ ∀ m ∈ (D11 st.2).matches_.l, kZ_ s m) ⟨⟨rfl, rfl, hE, rfl, ⟨by simp, fun x hx => by simp at hx, fun x hx => by simp at hx, by simp⟩⟩, rfl, fun m hm => by simp at hm⟩ fun st hst => ?_
 obtain ⟨hc, hcd, hm⟩ := hst
 refine bK_ (fun hi => aG_ il_ fun v hv0 => ?_) fun _ => ax_ fun _ => hm
 have hcc : Cs s v.v v.v ⟨st.2.1, st.2.2.1, st.2.2.2.1, st.2.2.2.2.1, v.v, st.2.2.2.2.2.2.2.2.2.1, st.2.2.2.2.2.2.2.2.2.2.1, st.2.2.2.2.2.2.2.2.2.2.2, st.2.2.2.2.2.2.1, st.2.2.2.2.2.2.2.1, T.nilm, st.2.2.2.2.2.2.2.2.1⟩ := ⟨hc.sub, rfl, hc.env, hc.co, ⟨hc.cap.len, hc.cap.kn, fun x hx => by
  have hx : x ∈ (D11 st.2).conds_.l := hx
  rw [hcd] at hx; simp at hx, hc.cap.so⟩⟩
 refine aG_ (qx_ hsz hv (hw v hv0) 99999999998 hcc) fun r hr => ?_
 have M : r.2.code_ = 0 → ∀ m ∈ r.2.matches_.l, kZ_ s m := fun h => by
  obtain ⟨x, x1, x2⟩ := hr.m h
  intro m hmm
  rw [x1] at hmm
  rcases List.mem_append.1 hmm with hmm | hmm
  ·exact hm m hmm
  ·exact x2 m hmm
 refine bK_ (fun _ => ax_ fun h => M h) fun hb => ax_ ?_
 have hb : r.1 = true := by cases h : r.1 <;> simp [h] at hb ⊢
 obtain ⟨y1, y2, y3, y4⟩ := hr.y hb
 have y4 : r.2.conds_.l = [] := y4.trans hcd
 refine ⟨⟨hr.k.2.2.trans hcc.sub, rfl, ?_, y1, ⟨y2, y3, fun x hx => ?_, ?_⟩⟩, y4, M y1⟩
 ·show ∀ x ∈ r.2.env_.l, _
  rw [hr.k.2.1]; exact hcc.env
 ·have hx : x ∈ r.2.conds_.l := hx
  rw [y4] at hx; simp at hx
 ·show r.2.conds_.l.Pairwise _
  rw [y4]; simp
theorem hf_ {R : Type} {b : Int → Option (Int ⊕ R)} {n : Nat} {r : R} : ∀ (m i : Nat), i + m = n → (∀ j : Nat, i ≤ j → j < n → b (j : Int) = some (.inl ((j : Int) + 1))) → b (n : Int) = some (.inr r) → az_ b (i : Int) = some r
 | 0, i, hi, h1, h2 => by rw [show i = n by omega]; exact ak_ h2
 | m + 1, i, hi, h1, h2 => aw_ (h1 i (Nat.le_refl _) (by omega)) (hf_ m (i + 1) (by omega) (fun j h3 h4 => h1 j (by omega) h4) h2)
theorem rt_ {m : DMatch} {nw cd : List DCapture} (h1 : m.Captures.l = nw ++ cd) (h2 : ∀ y ∈ nw, y.Kind ≠ 1) (h3 : ∀ y ∈ cd, y.Kind = 1) (h4 : nw.length + cd.length ≤ 100) : ∃ q, fR_ m = some (q, true) ∧ q.l = nw := by
 have hl : m.Captures.l.length = nw.length + cd.length := by rw [h1, List.length_append]
 have a1 : ∀ i (hi : i < nw.length), elt m.Captures (i : Int) = some nw[i] := fun i hi => by
  rw [bh_ (s := m.Captures) (i := i) (by omega)]
  simp [h1, List.getElem_append_left hi]
 have a2 : ∀ i (hi : nw.length ≤ i) (hj : i < nw.length + cd.length), ∃ y ∈ cd, elt m.Captures (i : Int) = some y := fun i hi hj => by
  refine ⟨cd[i - nw.length]'(by omega), List.getElem_mem _, ?_⟩
  rw [bh_ (s := m.Captures) (i := i) (by omega)]
  simp [h1, List.getElem_append_right hi]
 suffices H : ∃ q, ez_ m = some (q, true) ∧ q.l = nw by
  obtain ⟨q, q1, q2⟩ := H; exact ⟨q, kn_ _ _ q1, q2⟩
 unfold ez_
 rw [f4_ (n := nw.length) (r := (nw.length : Int)) (fun i hi => ?_) ?_, Option.bind_some, hf_ (n := m.Captures.l.length) (r := .inl ()) cd.length nw.length (by omega) (fun j h5 h6 => ?_) (if_neg (by simp)), Option.bind_some, Sum.elim_inl]
 ·have e' : subS m.Captures 0 (nw.length : Int) = some ⟨m.Captures.z, nw⟩ := by
   unfold subS
   rw [if_pos (by omega)]
   congr 2
   rw [h1]; simp
  rw [e']
  exact ⟨_, rfl, rfl⟩
 ·obtain ⟨y, y1, y2⟩ := a2 j h5 (by omega)
  rw [if_pos (by simp; omega), y2, Option.bind_some, if_neg (by simp [h3 y y1]), aQ_ (by omega) (by omega)]
 ·by_cases hc : cd.length = 0
  ·rw [if_neg (by simp; omega)]
  ·obtain ⟨y, y1, y2⟩ := a2 nw.length (Nat.le_refl _) (by omega)
   rw [if_pos (by simp; omega), y2, Option.bind_some, if_neg (by simp [h3 y y1])]
 ·rw [if_pos (by simp; omega), a1 i hi, Option.bind_some, if_pos (by simp [h2 _ (List.getElem_mem hi)]), aQ_ (by omega) (by omega)]
theorem hp_ (a : Sl (Iv .u8)) (h : ∀ x ∈ a.l, 0 ≤ x.v ∧ x.v ≤ 255) : dP_ a = some true := by
 refine ga_ _ _ ?_
 unfold cy_
 by_cases hl : 1048576 < (a.l.length : Int)
 ·rw [if_pos (by simpa using hl)]
 rw [if_neg (by simpa using hl)]
 have hb : Bys a := ⟨h, by omega⟩
 obtain ⟨env, e1, hE, _⟩ := sm_ a hb
 obtain ⟨b1, e2, hb1⟩ := pn_ 1 a h (by omega)
 obtain ⟨p, e3, p1, p2, p3⟩ := nE_ b1 hb1
 have e4 : fb_ 21 ⟨#[119]⟩ ⟨false, [p]⟩ = some (mn_ p) := i1_ _ _ _ _ rfl
 obtain ⟨b2, e5, hb2⟩ := pn_ 2 a h (by omega)
 obtain ⟨s, e6, hs⟩ := mu_ b2 hb2
 obtain ⟨c, e7, _⟩ := tX_ a 3 2 hb (by omega) (by omega)
 have hN : f8_ wB := ⟨by decide, by decide, by decide, fun i hi => by
  have : i = 0 := by have : i < 1 := hi; omega
  subst this; decide⟩
 have hP : VPat (mn_ p) := by
  refine ⟨.mk ⟨by show (1 : Int) ≤ 21 ∧ (21 : Int) ≤ 24; decide, by show (1 : Int) = kidN 21; rfl, ?_⟩ fun x hx => ?_, ?_⟩
  ·show ArgP 21 0 wB
   unfold ArgP
   rw [if_neg (by omega), if_neg (by omega), if_pos (by omega)]; exact ⟨rfl, hN⟩
  ·have hx : x = p := by simpa using hx
   rw [hx]; exact p1
  ·rw [jk_]; show ((1 + ndL [p] : Nat) : Int) ≤ 60; simp only [ndL]; omega
 obtain ⟨w, s1, s2, s3, s4⟩ := oK_ s (decide (c = 0)) (by omega)
 obtain ⟨x, x1, x2, x3, x4, x5⟩ := mP_ (f := 2000) hE hP (by omega) (decide (c = 0)) (by omega) s1 s2 s3 s4
 rw [e1, Option.bind_some, e2, Option.bind_some, e3, Option.bind_some, e4, Option.bind_some, e5, Option.bind_some, e6, Option.bind_some, e7, Option.bind_some, x3, Option.bind_some]
 by_cases hc : x.2.2.2.2.2.2.2.1 = 0
 rotate_left
 ·rw [if_neg (by simp), if_pos (by simp [hc])]
 rw [if_neg (by simp), if_neg (by simp [hc])]
 have hg := ow_ (f := 2000) (by omega) (fun x hx => (hE.2.1 x hx).2.1) s4 p1 x x1 hc
 generalize x.2.2.2.2.2.2.2.2.2.2 = L at *
 rw [f4_ (n := L.l.length) (r := .inl ()) (fun i hi => ?_) (if_neg (by simp))]
 ·rfl
 have el := bh_ (s := L) hi
 obtain ⟨nw, cd, x, g1, g2, g3, g4, g5, g6, g7⟩ := hg _ (List.getElem_mem hi)
 generalize hm : L.l[i] = m at *
 rw [if_pos (by simpa using hi)]
 simp only [el, Option.bind_some]
 obtain ⟨q, q1, q2⟩ := rt_ g1 g2 (fun y hy => (g3 y hy).1) g5
 have hlen : m.Captures.l.length = nw.length + (cd.length + 1) := by rw [g1]; simp
 have hcl : (cd ++ [x]).length = cd.length + 1 := by simp
 have ex : elt m.Captures (w4 ((m.Captures.l.length : Int) - 1)) = some x := by
  rw [aQ_ (by omega) (by omega), show (m.Captures.l.length : Int) - 1 = ((nw.length + cd.length : Nat) : Int) by omega, bh_ (by omega)]
  simp [g1]
 have et : cI_ s m = some (s.extract m.Start.toNat m.End.toNat) := qm_ g7
 have x1 : x.Name = ⟨#[119]⟩ := by rw [g6]
 have x2 : x.Text = s.extract m.Start.toNat m.End.toNat := by rw [g6]
 have x3 : x.Cursor = m.End := by rw [g6]
 rw [q1, Option.bind_some]
 simp only [Bool.not_true, Bool.false_eq_true, if_false, q2]
 rw [if_neg (by simp; omega), ex, Option.bind_some, if_neg (by simp; omega), if_neg (by simp; omega), if_neg (by simp [x1]), et, Option.bind_some, if_neg (by simp [x2]), if_neg (by simp [x3])]
 rw [hf_ (n := m.Captures.l.length) (r := .inl ()) (cd.length + 1) nw.length (by omega) (fun j h5 h6 => ?_) (if_neg (by simp))]
 ·show some (Sum.inl (w4 ((i : Int) + 1))) = _
  rw [aQ_ (by omega) (by omega)]
 ·have hj : j - nw.length < (cd ++ [x]).length := by omega
  have ej : elt m.Captures (j : Int) = some ((cd ++ [x])[j - nw.length]) := by
   rw [bh_ (by omega)]
   simp only [g1, List.getElem_append_right h5]
  obtain ⟨k1, a, b, k2, k3, k4, k5, k6, k7⟩ := g3 _ (List.getElem_mem hj)
  generalize hy : (cd ++ [x])[j - nw.length] = y at *
  have hsz : y.Text.size = b - a := by rw [k7, ByteArray.size_extract]; omega
  have hfr : w4 (y.Cursor - (y.Text.size : Int)) = (a : Int) := by rw [k6, hsz, aQ_ (by omega) (by omega)]; omega
  have hsub : subB s (a : Int) y.Cursor = some y.Text := by
   rw [k6, k7]; unfold subB; rw [if_pos (by omega)]; simp
  rw [if_pos (by simpa using h6)]
  simp only [ej, Option.bind_some, hfr]
  rw [if_neg (by simp; omega), if_neg (by simp; omega), if_neg (by simp; omega), hsub, Option.bind_some, if_neg (by simp)]
  by_cases hnj : nw.length < j
  ·have hj2 : j - nw.length - 1 < (cd ++ [x]).length := by omega
   have ej2 : elt m.Captures (w4 ((j : Int) - 1)) = some ((cd ++ [x])[j - nw.length - 1]) := by
    rw [aQ_ (by omega) (by omega), show (j : Int) - 1 = ((j - 1 : Nat) : Int) by omega, bh_ (by omega)]
    simp only [g1, List.getElem_append_right (show nw.length ≤ j - 1 by omega)]
    congr 2; omega
   have := List.pairwise_iff_getElem.1 g4 (j - nw.length - 1) (j - nw.length) hj2 hj (by omega)
   rw [hy] at this
   rw [if_pos (by simpa using hnj), ej2, Option.bind_some, if_neg (by simp; omega), aQ_ (by omega) (by omega)]
  ·rw [if_neg (by simpa using hnj), aQ_ (by omega) (by omega)]
theorem law_FnConditional {fu0 : Nat} {t0 : T} (h0 : Shp Go.Proofs.Tryz.prog fu0 22 [t0]) : ∃ σ', run Go.Proofs.Tryz.prog md ext 8 [t0] St.empty = some (.bool true, σ') := by
 obtain ⟨a, e0, ha⟩ := mY_ h0
 injection e0 with e0; subst e0
 exact ⟨_, fJ_ (hp_ a ha.2) St.empty⟩
end Go.Am
end
