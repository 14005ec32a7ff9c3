/- The abstract machine. -/
import Derived.Test.YtkgmfmcpbgffpaaAm1
import Derived.Test.YtkgmfmcpbgffpaaAm0
import Derived.Lib.LaidTab
import Derived.Lib.ItoaNum
import Derived.RangeFuncLeaves
import Derived.RangeFuncFrom
import Derived.LoopNIn
import Derived.OwnWalkIn
section
set_option linter.unusedVariables false
set_option linter.unusedSimpArgs false
namespace Go.Am
open Go.RowKit Classical
theorem uh_ {E E' : Env} {v : Value} {t : T} (h : V E v t) : leafT t = true → V E' v t := by
 have hL : ∀ (xs : Array Value) (ts : List T), xs.size = ts.length → (∀ j (h : j < xs.size) (h' : j < ts.length), leafT ts[j] = true → V E' xs[j] ts[j]) → leafL ts = true → ∀ j (h : j < xs.size) (h' : j < ts.length), V E' xs[j] ts[j] := fun xs ts hn ih hl j h1 h2 => by
  refine ih j h1 h2 ?_
  clear ih h1 hn
  induction ts generalizing j with
  | nil => simp at h2
  | cons t ts ih2 =>
   simp only [leafL, Bool.and_eq_true] at hl
   cases j with
   | zero => exact hl.1
   | succ j => exact ih2 hl.2 j (by simpa using h2)
 induction h with
 | int k n => intro _; exact .int k n
 | bool b => intro _; exact .bool b
 | str s => intro _; exact .str s
 | nilp => intro _; exact .nilp
 | nilf => intro _; exact .nilf
 | nili => intro _; exact .nili
 | nilm => intro _; exact .nilm
 | agg h1 _ ih => intro hl; simp only [leafT] at hl; exact .agg h1 (hL _ _ h1 (fun j a b c => ih j a b c) hl)
 | tup h1 _ ih => intro hl; simp only [leafT] at hl; exact .tup h1 (hL _ _ h1 (fun j a b c => ih j a b c) hl)
 | _ => intro hl; simp [leafT] at hl
theorem pureL_get : ∀ {ts : List T}, pureL ts = true → ∀ j (h : j < ts.length), pureT ts[j] = true
 | [], _, j, h => by simp at h
 | t :: ts, hl, j, h => by
  simp only [pureL, Bool.and_eq_true] at hl
  cases j with
  | zero => exact hl.1
  | succ j => exact pureL_get hl.2 j (by simpa using h)
theorem uk_ {E E' : Env} (hF : ∀ a u, E.F a = some u → E'.F a = some u) {v : Value} {t : T} (h : V E v t) : pureT t = true → V E' v t := by
 induction h with
 | int k n => intro _; exact .int k n
 | bool b => intro _; exact .bool b
 | str s => intro _; exact .str s
 | nilp => intro _; exact .nilp
 | nilf => intro _; exact .nilf
 | nili => intro _; exact .nili
 | nilm => intro _; exact .nilm
 | vw us h1 _ ih => intro hl; simp only [pureT] at hl; exact .vw us (fun j hj => hF _ _ (h1 j hj)) (fun j hj => ih j hj (pureL_get hl j hj))
 | rown => intro _; exact .rown
 | row us h0 h1 _ ih => intro hl; simp only [pureT] at hl; exact .row us h0 (fun j hj => hF _ _ (h1 j hj)) (fun j hj => ih j hj (pureL_get hl j hj))
 | emp => intro _; exact .emp
 | fn h1 _ h3 _ ih1 ih2 => intro hl; simp only [pureT, Bool.and_eq_true] at hl; exact .fn h1 (fun j a b => ih1 j a b (pureL_get hl.1 j b)) h3 (fun j a b => ih2 j a b (pureL_get hl.2 j b))
 | agg h1 _ ih => intro hl; simp only [pureT] at hl; exact .agg h1 (fun j a b => ih j a b (pureL_get hl j b))
 | tup h1 _ ih => intro hl; simp only [pureT] at hl; exact .tup h1 (fun j a b => ih j a b (pureL_get hl j b))
 | _ => intro hl; simp [pureT] at hl
noncomputable def Env.freeze (E : Env) (S : List Nat) (σ : St) (w : World) : Env :=
 ⟨fun a => match E.F a with
  | some u => some u
  | none => if ∃ b B e i, b ∈ S ∧ σ.blk b = some B ∧ B.low ≤ e ∧ E.J b e = some i ∧ a.block = i.g ∧ a.off < i.len then w.cell? a else none, E.J, E.O, E.G⟩
theorem Env.freeze_le (E : Env) (S : List Nat) (σ : St) (w : World) : Env.Le E (E.freeze S σ w) := ⟨fun a u h => by simp [Env.freeze, h], fun _ _ _ h => h, fun _ _ h => h, fun _ _ h => h⟩
theorem fx_ {σ : St} {S : List Nat} {b : Nat} {B' : Blk} (h : (σ.mark S).blk b = some B') : ∃ B, σ.blk b = some B ∧ B' = if b ∈ S then { B with st := false } else B := by
 simp only [St.mark, Option.map_eq_some_iff] at h
 obtain ⟨B, h1, h2⟩ := h
 exact ⟨B, h1, h2.symm⟩
theorem fd_ {B : Blk} {b : Nat} {S : List Nat} : ∀ B', (B' = if b ∈ S then { B with st := false } else B) → B'.cells = B.cells ∧ B'.esz = B.esz ∧ B'.ep = B.ep ∧ B'.low = B.low ∧ B'.ver = B.ver ∧ (B.st = false → B'.st = false) ∧ (b ∈ S → B'.st = false) := fun B' h => by
 subst h; split <;> simp_all
theorem Rel.freeze {B0 w0 E σ w} (h : Rel B0 w0 E σ w) (S : List Nat) : Rel B0 w0 (E.freeze S σ w) (σ.mark S) w := by
 have hle := E.freeze_le S σ w
 constructor
 ·exact h.bel
 ·exact h.hB
 ·intro a u ha
  simp only [Env.freeze] at ha
  split at ha
  ·rename_i u' hu; injection ha with ha; subst ha; exact h.frz a _ hu
  ·split at ha
   ·exact ha
   ·cases ha
 ·exact h.jlt
 ·intro b e i hi
  obtain ⟨B, hB⟩ := h.jb b e i hi
  exact ⟨if b ∈ S then { B with st := false } else B, by simp [St.mark, hB]⟩
 ·exact h.inj
 ·intro b B' hb
  obtain ⟨B, h1, h2⟩ := fx_ hb
  obtain ⟨_, _, e3, e4, _⟩ := fd_ B' h2
  obtain ⟨k1, k2⟩ := h.dom b B h1
  exact ⟨k1, by omega⟩
 ·intro b B' e i hb hi
  obtain ⟨B, h1, h2⟩ := fx_ hb
  obtain ⟨_, e2, e3, _⟩ := fd_ B' h2
  obtain ⟨k1, k2⟩ := h.jep b B e i h1 hi
  exact ⟨by omega, by omega⟩
 ·intro b B' e hb hlo hhi
  obtain ⟨B, h1, h2⟩ := fx_ hb
  obtain ⟨e1, _, e3, e4, _⟩ := fd_ B' h2
  obtain ⟨i, k1, k2, k3, k4⟩ := h.blk b B e h1 (by omega) (by omega)
  rw [e1]
  exact ⟨i, k1, k2, fun he => k3 (by omega), k4.mono hle⟩
 ·intro k p hk
  obtain ⟨h0, ⟨o, h1, h2⟩, h4⟩ := h.oth k p hk
  exact ⟨h0, ⟨o, h1, h2.mono hle⟩, h4⟩
 ·intro a u ha
  simp only [Env.freeze] at ha
  split at ha
  ·rename_i u' hu; exact h.unf a _ hu
  ·split at ha
   ·rename_i hx
    obtain ⟨b', B2, e2, i2, m1, m2, m3, m4, m5, m6⟩ := hx
    obtain ⟨arr, ty, fr, f1, f2, f3, f4, f5⟩ := h.form m2 m4 m3
    have := f4 a.off (by omega)
    unfold World.frozen?
    rw [m5, f1]
    obtain ⟨lo, hi⟩ := fr
    simp at this ⊢; omega
   ·cases ha
 ·exact h.gd
 ·intro b B' e i a u hb hi ha hg
  obtain ⟨B, h1, h2⟩ := fx_ hb
  obtain ⟨e1, _, _, e4, _, e6, e7⟩ := fd_ B' h2
  rw [e1]
  simp only [Env.freeze] at ha
  split at ha
  ·rename_i u' hu
   obtain ⟨k1, k2⟩ := h.nof b B e i a u' h1 hi hu hg
   exact ⟨e6 k1, k2⟩
  ·split at ha
   ·rename_i hx
    obtain ⟨b', B2, e2, i2, m1, m2, m3, m4, m5, m6⟩ := hx
    have hbb := h.inj _ _ _ _ _ _ hi m4 (by omega)
    subst hbb
    rw [h1] at m2; injection m2 with m2; subst m2
    have hep := (h.jep _ _ _ _ h1 m4).1
    obtain ⟨i3, n1, n2, _⟩ := h.blk _ _ e2 h1 m3 hep
    rw [m4] at n1; injection n1 with n1; subst n1
    exact ⟨e7 m1, by omega⟩
   ·cases ha
theorem gi_ {E E' : Env} {f : T → Option (T × List Nat)} {S0 : List Nat} (hf : ∀ t t' S v, f t = some (t', S) → (∀ b ∈ S, b ∈ S0) → V E v t → V E' v t') :
  ∀ {ts ts' : List T} {S : List Nat} {vs : List Value}, frzL f ts = some (ts', S) → (∀ b ∈ S, b ∈ S0) → VL E vs ts → VL E' vs ts'
 | [], ts', S, vs, h, hS, hv => by
  injection h with h; injection h with h1 h2; subst h1
  have : vs = [] := by have := hv.1; simpa using this
  subst this; exact .nil _
 | t :: ts, ts', S, [], h, hS, hv => by have := hv.1; simp at this
 | t :: ts, ts', S, v :: vs, h, hS, hv => by
  simp only [frzL, Option.bind_eq_some_iff, Option.map_eq_some_iff] at h
  obtain ⟨⟨t', S1⟩, h1, ⟨ts1, S2⟩, h2, h3⟩ := h
  injection h3 with h3 h4; subst h3; subst h4
  exact .cons (hf _ _ _ _ h1 (fun b hb => hS b (by simp [hb])) hv.head) (gi_ hf h2 (fun b hb => hS b (by simp [hb])) hv.tail)
theorem gU_ {B0 w0 E σ w} (hR : Rel B0 w0 E σ w) (S0 : List Nat) : ∀ (d : Nat) (t t' : T) (S : List Nat) (v : Value), frz σ d t = some (t', S) → (∀ b ∈ S, b ∈ S0) → V E v t → V (E.freeze S0 σ w) v t'
 | 0, t, t', S, v, h, hS, hv => by
  cases t <;> simp [frz] at h
  all_goals (obtain ⟨rfl, rfl⟩ := h)
  case emp => cases hv; exact .row (fun _ => undef) (Nat.le_refl _) (fun j hj => absurd hj (by simp)) (fun j hj => absurd hj (by simp))
  all_goals exact hv.mono (E.freeze_le S0 σ w)
 | d + 1, t, t', S, v, h, hS, hv => by
  have ihL := @gi_ E (E.freeze S0 σ w) (frz σ d) S0 (fun t t' S v h1 h2 h3 => gU_ hR S0 d t t' S v h1 h2 h3)
  cases t with
  | ref b e off n =>
   simp only [frz] at h
   obtain ⟨B, hb, h1⟩ := Option.bind_eq_some_iff.1 h
   split at h1
   ·rename_i hc
    obtain ⟨⟨cs, S1⟩, h2, h3⟩ := Option.map_eq_some_iff.1 h1
    injection h3 with h3 h4; subst h3; subst h4
    cases hv with
    | ref hJ hlen ha =>
     rename_i c inc a
     obtain ⟨_, hesz⟩ := hR.jep _ _ _ _ hb hJ
     obtain ⟨arr, aty, fr, f1, f2, f3, f4, f5, f6, f7⟩ := hR.form hb hJ hc.1
     have hlen' := hlen
     rw [hesz] at hlen' ha
     obtain ⟨us, k1, k2⟩ := hR.at_ hb hJ hc.1 hlen'
     have hnc : n ≤ c := by
      rcases ha with ⟨_, hcap⟩ | ⟨h0, _⟩
      ·have h3 : n * B.esz ≤ c * B.esz := by omega
       exact Nat.le_of_mul_le_mul_right h3 (by have := hc.2; omega)
      ·omega
     have hcs := ihL h2 (fun b hb => hS b (by simp [hb])) k2
     refine V.row_iff.2 (.inr ⟨rfl, _, c, us, rfl, hnc, hcs, fun j u hu => ?_⟩)
     rcases ha with ⟨rfl, _⟩ | ⟨rfl, _⟩
     ·have hcell := k1 j u hu
      have hj : j < n * B.esz := by
       have := (List.getElem?_eq_some_iff.1 hu).1
       have h2 := k2.1
       simp at h2; omega
      rw [jt_] at hcell ⊢
      simp only [Env.freeze]
      split
      ·rename_i u' hu'
       have := hR.frz _ _ hu'
       rw [hcell] at this; exact this.symm
      ·rw [if_pos ⟨b, B, e, inc, hS b (by simp), hb, hc.1, hJ, rfl, by show off + j < inc.len; omega⟩]
       exact hcell
     ·have : us = [] := by have := k2.1; simp at this; exact this
      subst this; simp at hu
   ·cases h1
  | agg cs =>
   simp only [frz] at h
   obtain ⟨⟨cs', S1⟩, h2, h3⟩ := Option.map_eq_some_iff.1 h
   injection h3 with h3 h4; subst h3; subst h4
   obtain ⟨xs, rfl, k1⟩ := V.agg_iff.1 hv
   exact V.agg_iff.2 ⟨xs, rfl, ihL h2 hS k1⟩
  | tup cs =>
   simp only [frz] at h
   obtain ⟨⟨cs', S1⟩, h2, h3⟩ := Option.map_eq_some_iff.1 h
   injection h3 with h3 h4; subst h3; subst h4
   obtain ⟨xs, rfl, k1⟩ := V.tup_iff.1 hv
   exact V.tup_iff.2 ⟨xs, rfl, ihL h2 hS k1⟩
  | emp =>
   simp [frz] at h; obtain ⟨rfl, rfl⟩ := h
   cases hv; exact .row (fun _ => undef) (Nat.le_refl _) (fun j hj => absurd hj (by simp)) (fun j hj => absurd hj (by simp))
  | _ => simp [frz] at h; obtain ⟨rfl, rfl⟩ := h; exact hv.mono (E.freeze_le S0 σ w)
theorem kk_ {f : T → Option (T × List Nat)} : ∀ {ts vs : List T} {S : List Nat}, frzL f ts = some (vs, S) → ∀ t ∈ ts, ∃ v S', f t = some (v, S') ∧ ∀ b ∈ S', b ∈ S
 | [], _, _, _, t, ht => by simp at ht
 | t0 :: ts, vs, S, h, t, ht => by
  simp only [frzL] at h
  obtain ⟨⟨v0, S0⟩, h1, h2⟩ := Option.bind_eq_some_iff.1 h
  obtain ⟨⟨vs', S'⟩, h3, h4⟩ := Option.map_eq_some_iff.1 h2
  injection h4 with h4 h5; subst h4; subst h5
  rcases List.mem_cons.1 ht with rfl | ht
  ·exact ⟨v0, S0, h1, fun b hb => by simp [hb]⟩
  ·obtain ⟨v, S1, k1, k2⟩ := kk_ h3 t ht
   exact ⟨v, S1, k1, fun b hb => by simp [k2 b hb]⟩
theorem mI_ {f : T → Option (T × List Nat)} : ∀ {ts vs : List T} {S : List Nat}, frzL f ts = some (vs, S) → ∀ b ∈ S, ∃ t ∈ ts, ∃ v S', f t = some (v, S') ∧ b ∈ S' ∧ ∀ b ∈ S', b ∈ S
 | [], _, _, h, b, hb => by simp [frzL] at h; simp [h.2] at hb
 | t0 :: ts, vs, S, h, b, hb => by
  simp only [frzL] at h
  obtain ⟨⟨v0, S0⟩, h1, h2⟩ := Option.bind_eq_some_iff.1 h
  obtain ⟨⟨vs', S'⟩, h3, h4⟩ := Option.map_eq_some_iff.1 h2
  injection h4 with h4 h5; subst h4; subst h5
  rcases List.mem_append.1 hb with hb | hb
  ·exact ⟨t0, by simp, v0, S0, h1, hb, fun b hb => by simp [hb]⟩
  ·obtain ⟨t, k0, v, S1, k1, k2, k3⟩ := mI_ h3 b hb
   exact ⟨t, by simp [k0], v, S1, k1, k2, fun b hb => by simp [k3 b hb]⟩
theorem rq_ {σ : St} {E E' : Env} {K0 : List Nat} (hJ : ∀ b e i, b ∈ K0 → E.J b e = some i → E'.J b e = some i) : ∀ (d : Nat) (t v : T) (K : List Nat) (u : Value), own σ d t = some (v, K) → (∀ b ∈ K, b ∈ K0) → V E u t → V E' u t
 | 0, t, v, K, u, h, hK, hv => by
  cases t with
  | row z n cs => cases hv with
   | rown => exact .rown
   | row us => simp [own] at h
  | agg => simp [own] at h
  | tup => simp [own] at h
  | ref => simp [own] at h
  | ptr => simp [own] at h
  | vw => simp [own] at h
  | fn => simp [own] at h
  | mp => simp [own] at h
  | anyi => simp [own] at h
  | yld => simp [own] at h
  | _ => cases hv; constructor
 | d + 1, t, v, K, u, h, hK, hv => by
  have hL : ∀ {ts vs S us}, frzL (own σ d) ts = some (vs, S) → (∀ b ∈ S, b ∈ K0) → VL E us ts → VL E' us ts := fun {ts vs S us} h1 h2 h3 => ⟨h3.1, fun j a b => by
   obtain ⟨v', S', k1, k2⟩ := kk_ h1 ts[j] (List.getElem_mem _)
   exact rq_ hJ d _ _ _ _ k1 (fun b hb => h2 b (k2 b hb)) (h3.2 j a b)⟩
  cases t with
  | ref b e off n =>
   simp only [own] at h
   obtain ⟨B, hb, h1⟩ := Option.bind_eq_some_iff.1 h
   split at h1
   ·obtain ⟨⟨cs, S1⟩, h2, h3⟩ := Option.map_eq_some_iff.1 h1
    injection h3 with h3 h4; subst h3; subst h4
    cases hv with
    | ref a1 a2 a3 => exact .ref (hJ _ _ _ (hK b (by simp)) a1) a2 a3
   ·cases h1
  | agg cs =>
   simp only [own] at h
   obtain ⟨⟨cs', S1⟩, h2, h3⟩ := Option.map_eq_some_iff.1 h
   injection h3 with h3 h4; subst h3; subst h4
   obtain ⟨xs, rfl, k1⟩ := V.agg_iff.1 hv
   exact V.agg_iff.2 ⟨xs, rfl, hL h2 hK k1⟩
  | tup cs =>
   simp only [own] at h
   obtain ⟨⟨cs', S1⟩, h2, h3⟩ := Option.map_eq_some_iff.1 h
   injection h3 with h3 h4; subst h3; subst h4
   obtain ⟨xs, rfl, k1⟩ := V.tup_iff.1 hv
   exact V.tup_iff.2 ⟨xs, rfl, hL h2 hK k1⟩
  | row z n cs => cases hv with
   | rown => exact .rown
   | row us => simp [own] at h
  | ptr => simp [own] at h
  | vw => simp [own] at h
  | fn => simp [own] at h
  | mp => simp [own] at h
  | anyi => simp [own] at h
  | yld => simp [own] at h
  | _ => cases hv; constructor
theorem oX_ {σ : St} {d : Nat} {z : Bool} {n : Nat} {cs : List T} {v : T} {K : List Nat} (h : own σ d (.row z n cs) = some (v, K)) : K = [] := by
 cases z <;> cases n <;> cases cs <;> cases d <;> simp_all [own]
theorem kH_ {σ : St} : ∀ (d : Nat) (t v : T) (K : List Nat), own σ d t = some (v, K) → ∀ b ∈ K, ∃ B v' K' d', σ.blk b = some B ∧ frzL (own σ d') B.cells = some (v', K') ∧ ∀ x ∈ K', x ∈ K
 | 0, t, v, K, h, b, hb => by
  cases t with
  | row z n cs => have := oX_ h; subst this; simp at hb
  | _ => simp [own] at h <;> (obtain ⟨_, rfl⟩ := h; simp at hb)
 | d + 1, t, v, K, h, b, hb => by
  have hL : ∀ {ts vs S}, frzL (own σ d) ts = some (vs, S) → ∀ b ∈ S, ∃ B v' K' d', σ.blk b = some B ∧ frzL (own σ d') B.cells = some (v', K') ∧ ∀ x ∈ K', x ∈ S := fun {ts vs S} h1 b hb => by
   obtain ⟨t, _, v, S', k1, k2, k3⟩ := mI_ h1 b hb
   obtain ⟨B, v', K', d', m1, m2, m3⟩ := kH_ d _ _ _ k1 b k2
   exact ⟨B, v', K', d', m1, m2, fun x hx => k3 x (m3 x hx)⟩
  cases t with
  | ref b0 e off n =>
   simp only [own] at h
   obtain ⟨B, hB, h1⟩ := Option.bind_eq_some_iff.1 h
   split at h1
   ·obtain ⟨⟨cs, S1⟩, h2, h3⟩ := Option.map_eq_some_iff.1 h1
    injection h3 with h3 h4; subst h3; subst h4
    rcases List.mem_cons.1 hb with rfl | hb
    ·exact ⟨B, cs, S1, d, hB, h2, fun x hx => by simp [hx]⟩
    ·obtain ⟨B', v', K', d', m1, m2, m3⟩ := hL h2 b hb
     exact ⟨B', v', K', d', m1, m2, fun x hx => by simp [m3 x hx]⟩
   ·cases h1
  | agg cs =>
   simp only [own] at h
   obtain ⟨⟨cs', S1⟩, h2, h3⟩ := Option.map_eq_some_iff.1 h
   injection h3 with h3 h4; subst h3; subst h4
   exact hL h2 b hb
  | tup cs =>
   simp only [own] at h
   obtain ⟨⟨cs', S1⟩, h2, h3⟩ := Option.map_eq_some_iff.1 h
   injection h3 with h3 h4; subst h3; subst h4
   exact hL h2 b hb
  | row z n cs => have := oX_ h; subst this; simp at hb
  | ptr => simp [own] at h
  | vw => simp [own] at h
  | fn => simp [own] at h
  | mp => simp [own] at h
  | anyi => simp [own] at h
  | yld => simp [own] at h
  | _ => simp [own] at h; obtain ⟨_, rfl⟩ := h; simp at hb
def aA_.toExit : aA_ → Exit
 | .normal => .normal
 | .exit id => .exit id
 | .ret => .ret
section
variable (P : Program)
def nc_ (f : Nat) : Prop := ∃ fn c, P.funcs[f]? = some fn ∧ (fn.name == "runtime.NumGoroutine") = false ∧ fn.body = some c
def IniW (_ : World) : Prop := P = P
def Ini (B0 : Nat) (w0 : World) : Prop := ∀ w, Below B0 w0 w → IniW P w
def m3_ (f : Nat) (vs : Array Value) (w : World) (Post : Value → World → Prop) : Prop :=
 (nc_ P f ∧ Calls P f vs w fun e w' => ∃ v, e = .returned v ∧ Post v w') ∨ ∃ v w', (callFunc f vs).run P w = .ok (.value v) w' ∧ Post v w'
def gN_ (f : Nat) (args : List T) (σ : St) (r : T) (σ' : St) : Prop :=
 ∀ B0 (w0 : {u : World // Ini P B0 u}) E w vs, Rel B0 w0.1 E σ w → VL E vs args → m3_ P f vs.toArray w fun v w' => ∃ E', Env.Le E E' ∧ Rel B0 w0.1 E' σ' w' ∧ V E' v r ∧ Keep E σ w σ' w'
def FR (rd : Option Nat) : Fence := { Fence.wide with round := rd }
def mark (D : Nat) : Deferred := { target := .collected D, args := #[] }
def DfOk (d0 : Nat) (E : Env) (w : World) (a : Act) : Prop := d0 ≤ w.heap.size ∧ ∃ Ds : List Nat, a.defers = Ds.map mark ∧ Ds.Nodup ∧ ∀ D ∈ Ds, d0 ≤ D ∧ E.O D = some (some (.deferred (some [])))
theorem DfOk.mono {d0 : Nat} {E E' : Env} {w w' : World} {a a' : Act} (h : DfOk d0 E w a) (hE : Env.Le E E') (hw : w.heap.size ≤ w'.heap.size) (ha : a'.defers = a.defers) : DfOk d0 E' w' a' := by
 obtain ⟨h0, Ds, h1, h2, h3⟩ := h
 exact ⟨Nat.le_trans h0 hw, Ds, by rw [ha, h1], h2, fun D hD => ⟨(h3 D hD).1, hE.o _ _ (h3 D hD).2⟩⟩
def Aft (B0 : Nat) (w0 : World) (n d0 : Nat) (E : Env) (σ : St) (w : World) (fr' : Fr) (a' : Act) (w' : World) : Prop :=
 ∃ E', Env.Le E E' ∧ Rel B0 w0 E' fr'.σ w' ∧ b6_ E' a' fr'.s ∧ DfOk d0 E' w' a' ∧ a'.tmps.size = n ∧ Keep E σ w fr'.σ w'
def AftO (B0 : Nat) (w0 : World) (n : Nat) (E : Env) (σ : St) (w : World) (a : Act) (fr' : Fr) (a' : Act) (w' : World) : Prop :=
 ∃ E', Env.Le E E' ∧ Rel B0 w0 E' fr'.σ w' ∧ b6_ E' a' fr'.s ∧ a'.defers = a.defers ∧ a'.tmps.size = n ∧ Keep E σ w fr'.σ w'
def SOp (ops : Array Oper) (o : Oper) (fr fr' : Fr) : Prop :=
 ∀ rd n B0 (w0 : {u : World // Ini P B0 u}) E w a (i : Nat) (K : Act → World → Prop) (Q : Exit → Act → World → Prop), ops[i]? = some o → ops.all (dOk n) = true → a.tmps.size = n → Rel B0 w0.1 E fr.σ w → b6_ E a fr.s →
  (∀ a' w', AftO B0 w0.1 n E fr.σ w a fr' a' w' → K a' w') → wpOpIn (FR rd) 0 P ops Q i K a w
def SOps (ops : Array Oper) (l : List Nat) (fr fr' : Fr) : Prop :=
 ∀ rd n B0 (w0 : {u : World // Ini P B0 u}) E w a (r : List Nat) (Q : Exit → Act → World → Prop), ops.all (dOk n) = true → a.tmps.size = n → Rel B0 w0.1 E fr.σ w → b6_ E a fr.s →
  (∀ a' w', AftO B0 w0.1 n E fr.σ w a fr' a' w' → wpOpsIn (FR rd) 0 P ops Q r a' w') → wpOpsIn (FR rd) 0 P ops Q (l ++ r) a w
def eh_ (c : Code) (fr : Fr) (x : aA_) (fr' : Fr) : Prop :=
 ∀ rd n d0 B0 (w0 : {u : World // Ini P B0 u}) E w a Q, (rd = none ∨ noRange c = true) → dstsOk n c = true → a.tmps.size = n → DfOk d0 E w a → Rel B0 w0.1 E fr.σ w → b6_ E a fr.s →
  (∀ a' w', Aft B0 w0.1 n d0 E fr.σ w fr' a' w' → Q x.toExit a' w') → c.wpIn (FR rd) 0 P Q a w
def SRnd (c : Code) (m : Nat) (fr : Fr) (x : aA_) (fr' : Fr) : Prop :=
 ∀ rd n d0 B0 (w0 : {u : World // Ini P B0 u}) E w a Q, (rd = none ∨ noRange c = true) → dstsOk n c = true → a.tmps.size = n → DfOk d0 E w a → Rel B0 w0.1 E fr.σ w → b6_ E a fr.s →
  (∀ a' w', Aft B0 w0.1 n d0 E fr.σ w fr' a' w' → Q x.toExit a' w') → Code.roundsIn (FR rd) 0 P c Q m a w
end
theorem b6_.put {E : Env} {a : Act} {s : Nat → T} (h : b6_ E a s) {o : Oper} {v : Value} {t : T} (hv : V E v t) (hd : dOk a.tmps.size o = true) (σ σ' : St) :
  b6_ E (a.put o.dst v) (Fr.put ⟨s, σ⟩ o.dst t σ').s := by
 unfold dOk at hd
 cases hdst : o.dst with
 | none => exact h
 | some d =>
  rw [hdst] at hd
  simp only [decide_eq_true_eq] at hd
  intro j
  simp only [Act.put, Fr.put]
  by_cases hj : j = d
  ·subst hj
   simp [hd]; exact hv
  ·rw [if_neg hj]
   have : (a.tmps.setIfInBounds d v).getD j undef = a.tmps.getD j undef := by
    simp [Array.getElem?_setIfInBounds_ne (Ne.symm hj)]
   rw [this]; exact h j
theorem mi_ (a : Act) (dst : Option Nat) (v : Value) : (a.put dst v).tmps.size = a.tmps.size := by cases dst <;> simp [Act.put]
theorem iO_ (a : Act) (dst : Option Nat) (v : Value) : (a.put dst v).defers = a.defers := by cases dst <;> rfl
theorem Fr.put_σ (fr : Fr) (dst : Option Nat) (v : T) (σ : St) : (fr.put dst v σ).σ = σ := by cases dst <;> rfl
theorem gL_ {ops : Array Oper} {n j : Nat} {o : Oper} (h : ops.all (dOk n) = true) (ho : ops[j]? = some o) : dOk n o = true :=
 Array.all_eq_true_iff_forall_mem.1 h o (Array.mem_of_getElem? ho)
theorem eG_ {E : Env} {a : Act} {s : Nat → T} (hS : b6_ E a s) {ops : Array Oper} {o : Oper} (hall : ops.all (dOk a.tmps.size) = true) : Region.wanted o (yielded ops a.tmps) = wantedA ops o s := by
 unfold Region.wanted wantedA
 cases hg : o.guard with
 | none => rfl
 | some gw =>
  obtain ⟨j, want⟩ := gw
  simp only [yielded]
  cases hop : ops[j]? with
  | none => simp
  | some o' =>
   simp only [Option.bind_some]
   have hd := gL_ hall hop
   unfold dOk at hd
   cases hdst : o'.dst with
   | none => simp
   | some d =>
    rw [hdst] at hd
    simp only [decide_eq_true_eq] at hd
    have hv := hS d
    have e1 : a.tmps.getD d undef = a.tmps[d] := by simp [hd]
    have e2 : a.tmps[d]? = some a.tmps[d] := Array.getElem?_eq_getElem hd
    simp only [Option.bind_some, e2]
    rw [e1] at hv
    generalize a.tmps[d] = v at hv
    generalize s d = t at hv
    cases hv <;> simp
section
variable {P : Program}
theorem m3_.mono {f : Nat} {vs : Array Value} {w : World} {Q Q' : Value → World → Prop} (h : m3_ P f vs w Q) (k : ∀ v w', Q v w' → Q' v w') : m3_ P f vs w Q' := by
 rcases h with ⟨h1, h2⟩ | ⟨v, w', h1, h2⟩
 ·exact .inl ⟨h1, h2.mono fun e w' ⟨v, e1, e2⟩ => ⟨v, e1, k v w' e2⟩⟩
 ·exact .inr ⟨v, w', h1, k v w' h2⟩
theorem eV_ {f : Nat} (h : nc_ P f) (vs : Array Value) (w : World) : (callFunc f vs).run P w = .ok (.enter f vs) w := by
 obtain ⟨fn, c, h1, h2, h3⟩ := h
 simp only [callFunc, Sem.run_bind, run_program, Result.andThen_ok, h1, h2, Bool.false_eq_true, if_false, h3, Option.isNone_some]
 simp
theorem iy_ {B0 w0 E w a} {fr : Fr} {n : Nat} {E' : Env} {w' : World} {o : Oper} {u : Value} {v : T} {σ : St} (hn : a.tmps.size = n) (hd : dOk n o = true) (hS : b6_ E a fr.s)
  (h1 : Env.Le E E') (h2 : Rel B0 w0 E' σ w') (h3 : V E' u v) (h4 : Keep E fr.σ w σ w') : AftO B0 w0 n E fr.σ w a (fr.put o.dst v σ) (a.put o.dst u) w' :=
 ⟨E', h1, by rw [Fr.put_σ]; exact h2, (hS.mono h1).put h3 (by rw [hn]; exact hd) fr.σ σ, iO_ _ _ _, by rw [mi_, hn], by rw [Fr.put_σ]; exact h4⟩
theorem fI_ {rd : Option Nat} {ops : Array Oper} {i : Nat} {o : Oper} {K : Act → World → Prop} {Q : Exit → Act → World → Prop} {a : Act} {w : World} (hi : ops[i]? = some o) (hw : Region.wanted o (yielded ops a.tmps) = true) (h : o.wpIn (FR rd) 0 P a w K Q) : wpOpIn (FR rd) 0 P ops Q i K a w := by
 unfold wpOpIn
 simp only [hi, hw, if_true]
 exact h
theorem kn_ {rd : Option Nat} {ops : Array Oper} {i : Nat} {o : Oper} {K : Act → World → Prop} {Q : Exit → Act → World → Prop} {a : Act} {w : World} (hi : ops[i]? = some o) (hw : Region.wanted o (yielded ops a.tmps) = false) (h : K (a.put o.dst undef) w) : wpOpIn (FR rd) 0 P ops Q i K a w := by
 unfold wpOpIn
 simp only [hi, hw, Bool.false_eq_true, if_false]
 exact ⟨fun _ _ => trivial, h⟩
theorem kg_ {kk : Option Nat} {fr : Fr} {o : Oper} {r : ARes} (h : aOp P kk fr o = some r) : ∀ c, o.op ≠ .defer c := by
 intro c hc
 unfold aOp at h
 rw [hc] at h
 cases h
theorem eK_ {rd : Option Nat} {o : Oper} {a : Act} {w : World} {K : Act → World → Prop} {Q : Exit → Act → World → Prop} (hd : ∀ c, o.op ≠ .defer c) (h : o.uponIn (FR rd) 0 P a K Q ((execOp a.eval o).run P w)) : o.wpIn (FR rd) 0 P a w K Q :=
 ⟨fun _ _ => trivial, by rw [Oper.semAt_eq _ _ _ hd]; exact h⟩
theorem py_ {rd : Option Nat} {c d : Code} (h : rd = none ∨ noRange (.seq c d) = true) : (rd = none ∨ noRange c = true) ∧ (rd = none ∨ noRange d = true) := by
 rcases h with h | h
 ·exact ⟨.inl h, .inl h⟩
 ·simp only [noRange, Bool.and_eq_true] at h; exact ⟨.inr h.1, .inr h.2⟩
theorem nN_ {rd : Option Nat} {x : Operand} {c d : Code} (h : rd = none ∨ noRange (.cond x c d) = true) : (rd = none ∨ noRange c = true) ∧ (rd = none ∨ noRange d = true) := by
 rcases h with h | h
 ·exact ⟨.inl h, .inl h⟩
 ·simp only [noRange, Bool.and_eq_true] at h; exact ⟨.inr h.1, .inr h.2⟩
theorem pU_ {ops : Array Oper} {o : Oper} {fr : Fr} (hw : wantedA ops o fr.s = false) : SOp P ops o fr (fr.put o.dst (.tup []) fr.σ) := by
 intro rd n B0 w0 E w a i K Q hi hall hn hR hS hK
 refine kn_ hi (by rw [eG_ hS (by rw [hn]; exact hall)]; exact hw) (hK _ _ ?_)
 exact iy_ hn (gL_ hall hi) hS (.refl E) hR (.undef E) (.refl _ _ _)
theorem rA_ {ops : Array Oper} {kk : Option Nat} {o : Oper} {fr : Fr} {v : T} {σ : St} (hw : wantedA ops o fr.s = true) (h : aOp P kk fr o = some (.val v σ)) : SOp P ops o fr (fr.put o.dst v σ) := by
 intro rd n B0 w0 E w a i K Q hi hall hn hR hS hK
 refine fI_ hi (by rw [eG_ hS (by rw [hn]; exact hall)]; exact hw) ?_
 obtain ⟨E', u, w', h1, h2, h3, h4, h5⟩ := iS_ hR hS h
 refine eK_ (kg_ h) ?_
 rw [h2]
 exact hK _ _ (iy_ hn (gL_ hall hi) hS h1 h3 h4 h5)
theorem nO_ {ops : Array Oper} {kk : Option Nat} {o : Oper} {fr : Fr} {σ : St} (hw : wantedA ops o fr.s = true) (h : aOp P kk fr o = some (.skip σ)) : SOp P ops o fr (fr.put o.dst (.tup []) σ) := by
 intro rd n B0 w0 E w a i K Q hi hall hn hR hS hK
 refine fI_ hi (by rw [eG_ hS (by rw [hn]; exact hall)]; exact hw) ?_
 obtain ⟨E', w', h1, h2, h3, h5⟩ := iS_ hR hS h
 refine eK_ (kg_ h) ?_
 rw [h2]
 exact hK _ _ (iy_ hn (gL_ hall hi) hS h1 h3 (.undef E') h5)
theorem p5_ {ops : Array Oper} {kk : Option Nat} {o : Oper} {fr : Fr} {f : Nat} {args : List T} {r : T} {σ : St} (hw : wantedA ops o fr.s = true) (h : aOp P kk fr o = some (.call f args)) (hc : gN_ P f args fr.σ r σ) : SOp P ops o fr (fr.put o.dst r σ) := by
 intro rd n B0 w0 E w a i K Q hi hall hn hR hS hK
 refine fI_ hi (by rw [eG_ hS (by rw [hn]; exact hall)]; exact hw) ?_
 obtain ⟨vs, h1, h2⟩ := iS_ hR hS h
 refine eK_ (kg_ h) ?_
 rcases hc B0 w0 E w vs hR h2 with ⟨g1, g2⟩ | ⟨v, w', g1, E', k1, k2, k3, k4⟩
 ·rw [h1, eV_ g1]
  refine ⟨fun h => (by cases h), ?_⟩
  refine CallsIn.mono (callsIn_wide (n := 0 - 1) |>.2 g2 : CallsIn Fence.wide (0 - 1) P _ _ _ _) ?_
  rintro e w' ⟨v, rfl, E', k1, k2, k3, k4⟩
  exact hK _ _ (iy_ hn (gL_ hall hi) hS k1 k2 k3 k4)
 ·rw [h1, g1]
  exact hK _ _ (iy_ hn (gL_ hall hi) hS k1 k2 k3 k4)
theorem p6_ {ops : Array Oper} {fr : Fr} : SOps P ops [] fr fr := by
 intro rd n B0 w0 E w a r Q hall hn hR hS hQ
 exact hQ _ _ ⟨E, .refl E, hR, hS, rfl, hn, .refl _ _ _⟩
theorem oh_ {ops : Array Oper} {i : Nat} {l : List Nat} {o : Oper} {fr fr1 fr2 : Fr} (hi : ops[i]? = some o) (h : SOp P ops o fr fr1) (k : SOps P ops l fr1 fr2) : SOps P ops (i :: l) fr fr2 := by
 intro rd n B0 w0 E w a r Q hall hn hR hS hQ
 rw [List.cons_append, wpOpsIn_cons]
 refine h rd n B0 w0 E w a i _ Q hi hall hn hR hS fun a1 w1 h1 => ?_
 obtain ⟨E1, m1, m2, m3, m4, m5, m6⟩ := h1
 refine k rd n B0 w0 E1 w1 a1 r Q hall m5 m2 m3 fun a2 w2 h2 => hQ _ _ ?_
 obtain ⟨E2, q1, q2, q3, q4, q5, q6⟩ := h2
 exact ⟨E2, m1.trans q1, q2, q3, q4.trans m4, q5, Keep.trans m1 m6 q6⟩
theorem AftO.aft {B0 w0 n d0 E σ w a fr' a' w'} (h : AftO B0 w0 n E σ w a fr' a' w') (hdf : DfOk d0 E w a) : Aft B0 w0 n d0 E σ w fr' a' w' := by
 obtain ⟨E', m1, m2, m3, m4, m5, m6⟩ := h
 exact ⟨E', m1, m2, m3, hdf.mono m1 m6.hs m4, m5, m6⟩
theorem kC_ {id : Nat} {ops : Array Oper} {fr fr' : Fr} (h : SOps P ops (List.range ops.size) fr fr') : eh_ P (.region id ops false) fr .normal fr' := by
 intro rd n d0 B0 w0 E w a Q hrd hall hn hdf hR hS hQ
 refine wpIn_region ?_
 have := h rd n B0 w0 E w a [] Q hall hn hR hS fun a' w' hA => hQ _ _ (hA.aft hdf)
 rw [List.append_nil] at this; exact this
theorem Rel.bump {B0 w0 E σ w} (h : Rel B0 w0 E σ w) (n : Nat) : Rel B0 w0 E (σ.bump n) w := by
 have hb : (σ.bump n).blk = σ.blk := by
  funext i
  show (if i < σ.next then σ.blk i else none) = σ.blk i
  split
  ·rfl
  ·cases hc : σ.blk i with
   | none => rfl
   | some B => exact absurd (h.dom i B hc).1 ‹_›
 have e : σ.bump n = ⟨σ.next + n, σ.blk⟩ := by rw [← hb]; rfl
 rw [e]
 exact ⟨h.bel, h.hB, h.frz, fun b e i hi => by obtain ⟨a1, a2, a3⟩ := h.jlt b e i hi; exact ⟨by simp; omega, a2, a3⟩, h.jb, h.inj, fun b B hb => by obtain ⟨a1, a2⟩ := h.dom b B hb; exact ⟨by simp; omega, a2⟩, h.jep, h.blk, h.oth, h.unf, h.gd, h.nof⟩
theorem nt_ (hmix : P.follows .mixedOrders = true) {id : Nat} {ops : Array Oper} {fr fr' : Fr} (h : ∀ t, SOps P ops (Region.linearise .any ops t) ⟨fr.s, fr.σ.bump ops.size⟩ fr') : eh_ P (.region id ops true) fr .normal fr' := by
 intro rd n d0 B0 w0 E w a Q hrd hall hn hdf hR hS hQ
 refine wpIn_region_draw fun t => ?_
 simp only [Region.schedule, hmix, Bool.true_or, if_true]
 have := h t rd n B0 w0 E _ a [] Q hall hn (hR.drew.bump _) hS fun a' w' hA => hQ _ _ ?_
 ·rw [List.append_nil] at this; exact this
 obtain ⟨E1, m1, m2, m3, m4, m5, m6⟩ := hA
 refine ⟨E1, m1, m2, m3, hdf.mono m1 m6.hs m4, m5, ?_, m6.hs, fun b B hb => m6.old b B (by show (if b < fr.σ.next then fr.σ.blk b else none) = some B; rw [if_pos (hR.dom b B hb).1, hb])⟩
 have := m6.nx
 simp [St.bump] at this
 omega
theorem oz_ {c d : Code} {fr fr1 fr2 : Fr} {x : aA_} (h : eh_ P c fr .normal fr1) (k : eh_ P d fr1 x fr2) : eh_ P (.seq c d) fr x fr2 := by
 intro rd n d0 B0 w0 E w a Q hrd hall hn hdf hR hS hQ
 simp only [dstsOk, Bool.and_eq_true] at hall
 refine wpIn_seq (h rd n d0 B0 w0 E w a _ (py_ hrd).1 hall.1 hn hdf hR hS fun a1 w1 h1 => ?_)
 obtain ⟨E1, m1, m2, m3, m4, m5, m6⟩ := h1
 refine k rd n d0 B0 w0 E1 w1 a1 Q (py_ hrd).2 hall.2 m5 m4 m2 m3 fun a2 w2 h2 => hQ _ _ ?_
 obtain ⟨E2, q1, q2, q3, q4, q5, q6⟩ := h2
 exact ⟨E2, m1.trans q1, q2, q3, q4, q5, Keep.trans m1 m6 q6⟩
theorem nG_ {c d : Code} {fr fr1 : Fr} {x : aA_} (h : eh_ P c fr x fr1) (hx : x ≠ .normal) : eh_ P (.seq c d) fr x fr1 := by
 intro rd n d0 B0 w0 E w a Q hrd hall hn hdf hR hS hQ
 simp only [dstsOk, Bool.and_eq_true] at hall
 refine wpIn_seq (h rd n d0 B0 w0 E w a _ (py_ hrd).1 hall.1 hn hdf hR hS fun a1 w1 h1 => ?_)
 have := hQ a1 w1 h1
 cases x with
 | normal => exact absurd rfl hx
 | exit i => exact this
 | ret => exact this
theorem js_ {c : Operand} {b : Bool} {x y : Code} {fr fr' : Fr} {e : aA_} (hc : evalO fr.s c = some (.bool b)) (h : eh_ P (if b then x else y) fr e fr') : eh_ P (.cond c x y) fr e fr' := by
 intro rd n d0 B0 w0 E w a Q hrd hall hn hdf hR hS hQ
 simp only [dstsOk, Bool.and_eq_true] at hall
 refine wpIn_cond (t := b) (ak_ hS hc).bool_inv ?_
 refine h rd n d0 B0 w0 E w a Q ?_ ?_ hn hdf hR hS hQ
 ·cases b
  ·exact (nN_ hrd).2
  ·exact (nN_ hrd).1
 ·cases b <;> simp [hall.1, hall.2]
theorem lQ_ {id : Nat} {c : Code} {fr fr' : Fr} {x : aA_} (h : eh_ P c fr x fr') : eh_ P (.block id c) fr (x.blk id) fr' := by
 intro rd n d0 B0 w0 E w a Q hrd hall hn hdf hR hS hQ
 refine wpIn_block (h rd n d0 B0 w0 E w a _ hrd hall hn hdf hR hS fun a1 w1 h1 => ?_)
 have := hQ a1 w1 h1
 cases x with
 | normal => exact this
 | exit i =>
  simp only [aA_.blk, aA_.toExit, Exit.inBlock] at this ⊢
  split
  ·rename_i hi; simp only [hi, if_true] at this; exact this
  ·rename_i hi; simp only [hi, if_false] at this; exact this
 | ret => exact this
theorem ns_ {c : Code} {m : Nat} {fr fr' : Fr} {x : aA_} (h : SRnd P c m fr x fr') : eh_ P (.loop c) fr x fr' := by
 intro rd n d0 B0 w0 E w a Q hrd hall hn hdf hR hS hQ
 exact wpIn_loop_rounds m (h rd n d0 B0 w0 E w a Q hrd hall hn hdf hR hS hQ)
theorem rE_ {c : Code} {m : Nat} {fr fr1 fr2 : Fr} {x : aA_} (h : eh_ P c fr .normal fr1) (k : SRnd P c m fr1 x fr2) : SRnd P c (m + 1) fr x fr2 := by
 intro rd n d0 B0 w0 E w a Q hrd hall hn hdf hR hS hQ
 refine h rd n d0 B0 w0 E w a _ hrd hall hn hdf hR hS fun a1 w1 h1 => ?_
 obtain ⟨E1, m1, m2, m3, m4, m5, m6⟩ := h1
 refine k rd n d0 B0 w0 E1 w1 a1 Q hrd hall m5 m4 m2 m3 fun a2 w2 h2 => hQ _ _ ?_
 obtain ⟨E2, q1, q2, q3, q4, q5, q6⟩ := h2
 exact ⟨E2, m1.trans q1, q2, q3, q4, q5, Keep.trans m1 m6 q6⟩
theorem oZ_ {c : Code} {m : Nat} {fr fr1 : Fr} {x : aA_} (h : eh_ P c fr x fr1) (hx : x ≠ .normal) : SRnd P c (m + 1) fr x fr1 := by
 intro rd n d0 B0 w0 E w a Q hrd hall hn hdf hR hS hQ
 refine h rd n d0 B0 w0 E w a _ hrd hall hn hdf hR hS fun a1 w1 h1 => ?_
 have := hQ a1 w1 h1
 cases x with
 | normal => exact absurd rfl hx
 | exit i => exact this
 | ret => exact this
theorem hI_ {c : Code} {x : aA_} {fr : Fr} (h : ∀ rd Q a w, Q x.toExit a w → c.wpIn (FR rd) 0 P Q a w) : eh_ P c fr x fr := by
 intro rd n d0 B0 w0 E w a Q hrd hall hn hdf hR hS hQ
 exact h rd Q a w (hQ _ _ ⟨E, .refl E, hR, hS, hdf, hn, .refl _ _ _⟩)
theorem jn_ {B0 w0 E w} {fr : Fr} {a : Act} (hR : Rel B0 w0 E fr.σ w) (hS : b6_ E a fr.s) : ∀ {rs : List ResultVar} {ts : List T}, resL P fr rs = some ts →
  ∃ vs : List Value, ((rs.mapM fun | .tmp t => pure (a.tmps.getD t undef) | .cell x t => do loadVar t (← asAddr (a.tmps.getD x undef)) : Sem (List Value))).run P w = .ok vs w ∧ VL E vs ts
 | [], ts, h => by injection h with h; subst h; exact ⟨[], by simp, .nil _⟩
 | r :: rs, ts, h => by
  simp only [resL, Option.bind_eq_some_iff, Option.map_eq_some_iff] at h
  obtain ⟨t, ht, ts', hts, rfl⟩ := h
  obtain ⟨vs, h1, h2⟩ := jn_ hR hS hts
  cases r with
  | tmp j =>
   injection ht with ht; subst ht
   refine ⟨a.tmps.getD j undef :: vs, ?_, .cons (hS j) h2⟩
   simp only [List.mapM_cons, Sem.run_bind, Sem.run_pure, Result.andThen_ok, h1]
  | cell x ty =>
   obtain ⟨u, k1, k2⟩ := iz_ (P := P) hR (hS x) ht
   refine ⟨u :: vs, ?_, .cons k2 h2⟩
   have : (do loadVar ty (← asAddr (a.tmps.getD x undef)) : Sem Value).run P w = .ok u w := by
    generalize a.tmps.getD x undef = z at k1
    cases z <;> simp [Instr.loadAt, Instr.sureAddr, stuck, Sem.run] at k1 ⊢
    rename_i p
    cases p <;> simp [Sem.run, asAddr] at k1 ⊢
    exact k1
   simp only [List.mapM_cons, Sem.run_bind, this, Sem.run_pure, Result.andThen_ok, h1]
theorem jq_ {B0 w0 E w} {fr : Fr} {a : Act} (hR : Rel B0 w0 E fr.σ w) (hS : b6_ E a fr.s) {fn : Func} {r : T} (h : resA P fn fr = some r) : ∃ v, (results fn a.tmps).run P w = .ok v w ∧ V E v r := by
 obtain ⟨ts, hts, rfl⟩ := Option.map_eq_some_iff.1 h
 obtain ⟨vs, h1, h2⟩ := jn_ hR hS hts
 refine ⟨if hh : vs.toArray.size = 1 then vs.toArray[0] else .tuple vs.toArray, ?_, ?_⟩
 ·unfold results
  rw [Array.mapM_eq_mapM_toList]
  simp only [Sem.run_bind, Sem.run_map]
  erw [h1]
  rfl
 ·split
  ·rename_i hh
   have hl : vs.length = 1 := by simpa using hh
   obtain ⟨v, rfl⟩ := List.length_eq_one_iff.1 hl
   have : ts.length = 1 := by rw [← h2.1]; rfl
   obtain ⟨t, rfl⟩ := List.length_eq_one_iff.1 this
   exact h2.head
  ·rename_i hh
   have hl : ¬ ts.length = 1 := by rw [← h2.1]; simpa using hh
   have : tupOf ts = T.tup ts := by
    match ts, hl with
    | [], _ => rfl
    | [_], h => exact absurd rfl h
    | _ :: _ :: _, _ => rfl
   rw [this]
   exact V.tup_iff.2 ⟨_, rfl, by simpa using h2⟩
theorem hM_ {E : Env} {vs : List Value} {args : List T} (h : VL E vs args) (n : Nat) : b6_ E { tmps := vs.toArray ++ Array.replicate n undef, defers := [] } (enterS args) := by
 intro j
 unfold enterS
 have hl := h.1
 by_cases hj : j < vs.length
 ·have e1 : (vs.toArray ++ Array.replicate n undef).getD j undef = vs[j] := by
   simp [Array.getElem?_append, hj]
  have e2 : args.getD j (.tup []) = args[j]'(by omega) := by simp [List.getD_eq_getElem?_getD, show j < args.length by omega]
  simp only [e1, e2]
  exact h.2 j hj (by omega)
 ·have e1 : (vs.toArray ++ Array.replicate n undef).getD j undef = undef := by
   simp only [Array.getD_eq_getD_getElem?, Array.getElem?_append, List.size_toArray, if_neg hj, Array.getElem?_replicate]
   split <;> rfl
  have e2 : args.getD j (.tup []) = .tup [] := by simp [List.getD_eq_getElem?_getD, List.getElem?_eq_none (show args.length ≤ j by omega)]
  simp only [e1, e2]
  exact .undef E
theorem hP_ {B0 : Nat} {w0 w : World} {E : Env} {σ : St} {fn : Func} {r : T} {fr : Fr} {tmps : Array Value} (hR : Rel B0 w0 E σ w) (h8 : resA P fn fr = some r) : ∀ (Ds : List Nat) {E' : Env} {w' : World}, Env.Le E E' → Rel B0 w0 E' fr.σ w' → b6_ E' { tmps := tmps, defers := [] } fr.s →
  Ds.Nodup → (∀ D ∈ Ds, w.heap.size ≤ D ∧ E'.O D = some (some (.deferred (some [])))) → Keep E σ w fr.σ w' →
  LeavesInM Fence.wide 0 P fn tmps (fun e w' => ∃ v, e = .returned v ∧ ∃ E', Env.Le E E' ∧ Rel B0 w0 E' fr.σ w' ∧ V E' v r ∧ Keep E σ w fr.σ w') (Ds.map mark) .returning w'
 | [], E', w', m1, m2, m3, _, _, m6 => by
  obtain ⟨v, k1, k2⟩ := jq_ (P := P) m2 m3 h8
  exact ⟨v, k1, v, rfl, E', m1, m2, k2, m6⟩
 | D :: Ds, E', w', m1, m2, m3, m4, m5, m6 => by
  obtain ⟨g1, g2⟩ := m5 D (by simp)
  obtain ⟨a0, ⟨o, a1, rfl, a2⟩, a3⟩ := m2.oth D _ g2
  have hne : E'.O D ≠ some none := by rw [g2]; simp
  have h0 : E.O D = none := by
   cases hE : E.O D with
   | none => rfl
   | some p =>
    obtain ⟨_, ⟨o, b1, _⟩, _⟩ := hR.oth D p hE
    have := (Array.getElem?_eq_some_iff.1 b1).1
    omega
  have hle := Env.cut_le m1 h0
  have hO : (E'.cut D).O D = none := by show (if D = D then none else _) = none; simp
  obtain ⟨q1, q2⟩ := (m2.cut hne).turn (o := .deferred none) a0 a1 a2 hO a3
  refine ⟨by simp, .inl ⟨D, _, rfl, run_takeDeferred a1, hP_ hR h8 Ds hle q1 (m3.cut hne) (List.nodup_cons.1 m4).2 (fun D' hD' => ?_) (Keep.trans hle m6 q2)⟩⟩
  obtain ⟨c1, c2⟩ := m5 D' (by simp [hD'])
  refine ⟨c1, ?_⟩
  show (if D' = D then none else E'.O D') = _
  have hn : D' ≠ D := fun e => (List.nodup_cons.1 m4).1 (by rw [← e]; exact hD')
  rw [if_neg hn]; exact c2
theorem ql_ {f : Nat} {fn : Func} {c : Code} {args : List T} {σ : St} {x : aA_} {fr : Fr} {r : T} (h1 : P.funcs[f]? = some fn) (h2 : (fn.name == "runtime.NumGoroutine") = false) (h3 : fn.body = some c) (h4 : dstsOk fn.ntmps c = true) (h5 : args.length ≤ fn.ntmps)
  (h6 : eh_ P c ⟨enterS args, σ⟩ x fr) (h7 : x = .normal ∨ x = .ret) (h8 : resA P fn fr = some r) : gN_ P f args σ r fr.σ := by
 intro B0 w0 E w vs hR hv
 refine .inl ⟨⟨fn, c, h1, h2, h3⟩, ?_⟩
 refine callsIn_wide.1 (callsIn_of_wp_marks (F := Fence.wide) (n := 0) h1 h3 trivial ?_)
 have hl := hv.1
 refine h6 none fn.ntmps w.heap.size B0 w0 E w _ _ (.inl rfl) h4 ?_ ⟨Nat.le_refl _, [], rfl, List.nodup_nil, fun D hD => by cases hD⟩ hR (hM_ hv _) fun a' w' hA => ?_
 ·simp; omega
 ·obtain ⟨E', m1, m2, m3, m4, m5, m6⟩ := hA
  obtain ⟨_, Ds, d1, d2, d3⟩ := m4
  have key : LeavesInM Fence.wide 0 P fn a'.tmps (fun e w' => ∃ v, e = .returned v ∧ ∃ E', Env.Le E E' ∧ Rel B0 w0.1 E' fr.σ w' ∧ V E' v r ∧ Keep E σ w fr.σ w') a'.defers .returning w' := by
   rw [d1]; exact hP_ hR h8 Ds m1 m2 m3 d2 d3 m6
  rcases h7 with rfl | rfl
  ·exact key
  ·exact key
theorem jB_ {D1 D2 f : Nat} {args args' : List T} {σ σ2 : St} {S S2 : List Nat} {r r' : T} (h1 : frzL (frz σ D1) args = some (args', S)) (h2 : gN_ P f args' (σ.mark S) r σ2) (h3 : frz σ2 D2 r = some (r', S2)) (h4 : pureT r' = true)
  (h5 : ∀ i, i < σ.next → σ2.blk i = (σ.mark S).blk i) : gN_ P f args σ r' (if leafT r' = true then σ else (σ.mark S).mark (S2.filter fun i => decide (i < σ.next))) := by
 intro B0 w0 E w vs hR hv
 have hR1 := hR.freeze S
 have hv1 : VL (E.freeze S σ w) vs args' := gi_ (fun t t' S' v a b c => gU_ hR S D1 t t' S' v a b c) h1 (fun b hb => hb) hv
 refine (h2 B0 w0 _ w vs hR1 hv1).mono ?_
 rintro v w' ⟨E2, k1, k2, k3, k4⟩
 have hR3 := k2.freeze S2
 have hv3 := gU_ k2 S2 D2 r r' S2 v h3 (fun b hb => hb) k3
 have hle1 := E.freeze_le S σ w
 have hle3 := E2.freeze_le S2 σ2 w'
 have hF : ∀ a u, E.F a = some u → (E2.freeze S2 σ2 w').F a = some u := fun a u h => hle3.f _ _ (k1.f _ _ (hle1.f _ _ h))
 have hheap : ∀ b B e i, σ.blk b = some B → E.J b e = some i → w'.heap[i.g]? = w.heap[i.g]? := fun b B e i hb hi => by
  have hlt := (hR.jlt b e i hi).1
  obtain ⟨B2, q1, q2, q3⟩ := k4.old b (if b ∈ S then { B with st := false } else B) (by simp [St.mark, hb])
  rw [h5 b hlt] at q1
  simp only [St.mark, hb, Option.map_some] at q1
  injection q1 with q1
  exact q3 (by rw [← q1]) e i hi
 have hsz : w.heap.size ≤ w'.heap.size := k4.hs
 have hkeepblk : ∀ (σ' : St), σ'.next = σ.next → (∀ b B, σ.blk b = some B → ∃ B', σ'.blk b = some B' ∧ B'.ver = B.ver) → Keep E σ w σ' w' := fun σ' hn hb => ⟨by omega, hsz, fun b B hB => by
  obtain ⟨B', q1, q2⟩ := hb b B hB
  exact ⟨B', q1, by omega, fun _ e i hi => hheap b B e i hB hi⟩⟩
 split
 ·rename_i hleaf
  have hEE : Env.Le E ⟨E.F, E.J, E2.O, E2.G⟩ := ⟨fun _ _ h => h, fun _ _ _ h => h, fun k p h => k1.o k p h, fun k p h => k1.g k p h⟩
  refine ⟨⟨E.F, E.J, E2.O, E2.G⟩, hEE, ?_, uh_ hv3 hleaf, hkeepblk σ rfl (fun b B hB => ⟨B, hB, rfl⟩)⟩
  exact ⟨k2.bel, k2.hB, fun a u ha => hR3.frz a u (hF a u ha), fun b e i hi => by obtain ⟨a1, a2, a3⟩ := hR.jlt b e i hi; exact ⟨a1, a2, by omega⟩, hR.jb, hR.inj, hR.dom, hR.jep, fun b B e hb hlo hhi => by
   obtain ⟨i, a1, a2, a3, a4⟩ := hR.blk b B e hb hlo hhi
   exact ⟨i, a1, a2, a3, (a4.heap (hheap b B e i hb a1)).mono hEE⟩, fun k p hk => by
   obtain ⟨a1, ⟨o, a2, a3⟩, a4⟩ := k2.oth k p hk
   exact ⟨a1, ⟨o, a2, a3.same rfl⟩, fun b e i hi => a4 b e i (k1.j _ _ _ hi)⟩, fun a u ha => hR3.unf a u (hF a u ha), k2.gd, hR.nof⟩
 ·let E3 : Env := ⟨(E2.freeze S2 σ2 w').F, E.J, E2.O, E2.G⟩
  have hEE3 : Env.Le E E3 := ⟨hF, fun _ _ _ h => h, fun k p h => k1.o k p h, fun k p h => k1.g k p h⟩
  have hmk : ∀ b B', ((σ.mark S).mark (S2.filter fun i => decide (i < σ.next))).blk b = some B' → ∃ B, σ.blk b = some B ∧ B'.cells = B.cells ∧ B'.esz = B.esz ∧ B'.ep = B.ep ∧ B'.low = B.low ∧ B'.ver = B.ver ∧ (B.st = false → B'.st = false) ∧ (σ2.mark S2).blk b = some B' := fun b B' hb => by
   obtain ⟨B1, a1, a2⟩ := fx_ hb
   obtain ⟨B, b1, b2⟩ := fx_ a1
   obtain ⟨c1, c2, c3, c4, c5, c6, _⟩ := fd_ B' a2
   obtain ⟨d1, d2, d3, d4, d5, d6, _⟩ := fd_ B1 b2
   refine ⟨B, b1, by rw [c1, d1], by rw [c2, d2], by rw [c3, d3], by rw [c4, d4], by rw [c5, d5], fun hh => c6 (d6 hh), ?_⟩
   have hlt := (hR.dom b B b1).1
   have h6 := h5 b hlt
   have h7 : b ∈ S2.filter (fun i => decide (i < σ.next)) ↔ b ∈ S2 := by simp [hlt]
   simp only [St.mark, h7] at h6 hb ⊢
   rw [h6]; exact hb
  refine ⟨E3, hEE3, ?_, uk_ (E := E2.freeze S2 σ2 w') (E' := E3) (fun _ _ h => h) hv3 h4, hkeepblk _ rfl (fun b B hB => ?_)⟩
  ·refine ⟨k2.bel, k2.hB, fun a u ha => hR3.frz a u ha, fun b e i hi => by obtain ⟨a1, a2, a3⟩ := hR.jlt b e i hi; exact ⟨a1, a2, by omega⟩, fun b e i hi => by { obtain ⟨B, hB⟩ := hR.jb b e i hi; exact ⟨_, by simp [St.mark, hB]; rfl⟩ }, hR.inj, fun b B' hb => ?_, fun b B' e i hb hi => ?_, fun b B' e hb hlo hhi => ?_, fun k p hk => by { obtain ⟨a1, ⟨o, a2, a3⟩, a4⟩ := k2.oth k p hk; exact ⟨a1, ⟨o, a2, a3.same rfl⟩, fun b e i hi => a4 b e i (k1.j _ _ _ hi)⟩ }, hR3.unf, k2.gd, fun b B' e i a u hb hi ha hg => ?_⟩
   ·obtain ⟨B, q0, q1, q2, q3, q4, q5, q6, q7⟩ := hmk b B' hb
    obtain ⟨a1, a2⟩ := hR.dom b B q0
    exact ⟨a1, by omega⟩
   ·obtain ⟨B, q0, q1, q2, q3, q4, q5, q6, q7⟩ := hmk b B' hb
    obtain ⟨a1, a2⟩ := hR.jep b B e i q0 hi
    exact ⟨by omega, by omega⟩
   ·obtain ⟨B, q0, q1, q2, q3, q4, q5, q6, q7⟩ := hmk b B' hb
    obtain ⟨i, a1, a2, a3, a4⟩ := hR.blk b B e q0 (by omega) (by omega)
    rw [q1]
    exact ⟨i, a1, a2, fun he => a3 (by omega), (a4.heap (hheap b B e i q0 a1)).mono hEE3⟩
   ·obtain ⟨B, q0, q1, q2, q3, q4, q5, q6, q7⟩ := hmk b B' hb
    exact hR3.nof b B' e i a u q7 (k1.j _ _ _ hi) ha hg
  ·exact ⟨_, by simp [St.mark, hB]; rfl, by split <;> split <;> rfl⟩
theorem k5_ {D1 D2 f : Nat} {args args' : List T} {σ σ2 : St} {S K : List Nat} {r v0 : T} (h1 : frzL (frz σ D1) args = some (args', S)) (h2 : gN_ P f args' (σ.mark S) r σ2) (h3 : own σ2 D2 r = some (v0, K)) (h4 : ∀ b ∈ K, σ.next ≤ b)
  (h5 : ∀ i, i < σ.next → σ2.blk i = (σ.mark S).blk i) : gN_ P f args σ r (σ.keep σ2 K) := by
 intro B0 w0 E w vs hR hv
 have hR1 := hR.freeze S
 have hv1 : VL (E.freeze S σ w) vs args' := gi_ (fun t t' S' v a b c => gU_ hR S D1 t t' S' v a b c) h1 (fun b hb => hb) hv
 refine (h2 B0 w0 _ w vs hR1 hv1).mono ?_
 rintro v w' ⟨E2, k1, k2, k3, k4⟩
 have hle1 := E.freeze_le S σ w
 have hEE2 : Env.Le E E2 := hle1.trans k1
 have hnx : σ.next ≤ σ2.next := k4.nx
 have hheap : ∀ b B e i, σ.blk b = some B → E.J b e = some i → w'.heap[i.g]? = w.heap[i.g]? := fun b B e i hb hi => by
  have hlt := (hR.jlt b e i hi).1
  obtain ⟨B2, q1, q2, q3⟩ := k4.old b (if b ∈ S then { B with st := false } else B) (by simp [St.mark, hb])
  rw [h5 b hlt] at q1
  simp only [St.mark, hb, Option.map_some] at q1
  injection q1 with q1
  exact q3 (by rw [← q1]) e i hi
 have hsz : w.heap.size ≤ w'.heap.size := k4.hs
 let E3 : Env := ⟨E.F, fun b e => if b < σ.next then E.J b e else if b ∈ K then E2.J b e else none, E2.O, E2.G⟩
 have hJ3 : ∀ b e i, E3.J b e = some i → E2.J b e = some i ∧ ((b < σ.next ∧ E.J b e = some i) ∨ (σ.next ≤ b ∧ b ∈ K)) := fun b e i h => by
  simp only [E3] at h
  split at h
  ·exact ⟨hEE2.j _ _ _ h, .inl ⟨by assumption, h⟩⟩
  ·split at h
   ·exact ⟨h, .inr ⟨by omega, by assumption⟩⟩
   ·cases h
 have hJK : ∀ b e i, b ∈ K → E2.J b e = some i → E3.J b e = some i := fun b e i hb h => by
  have := h4 b hb
  simp only [E3]
  rw [if_neg (by omega), if_pos hb]; exact h
 have hE3 : Env.Le E E3 := ⟨fun _ _ h => h, fun b e i h => by
  have := (hR.jlt b e i h).1
  simp only [E3]; rw [if_pos this]; exact h, fun k p h => k1.o k p h, fun k p h => k1.g k p h⟩
 have hblk : ∀ b B, (σ.keep σ2 K).blk b = some B → (b < σ.next ∧ σ.blk b = some B) ∨ (σ.next ≤ b ∧ b ∈ K ∧ σ2.blk b = some B) := fun b B h => by
  simp only [St.keep] at h
  split at h
  ·exact .inl ⟨by assumption, h⟩
  ·split at h
   ·exact .inr ⟨by omega, by assumption, h⟩
   ·cases h
 have hbK : ∀ b B, b ∈ K → σ2.blk b = some B → (σ.keep σ2 K).blk b = some B := fun b B hb h => by
  have := h4 b hb
  simp only [St.keep]; rw [if_neg (by omega), if_pos hb]; exact h
 have hbo : ∀ b B, σ.blk b = some B → (σ.keep σ2 K).blk b = some B := fun b B h => by
  have := (hR.dom b B h).1
  simp only [St.keep]; rw [if_pos this]; exact h
 refine ⟨E3, hE3, ?_, rq_ hJK D2 r v0 K v h3 (fun b hb => hb) k3, ⟨hnx, hsz, fun b B hB => ⟨B, hbo b B hB, Nat.le_refl _, fun _ e i hi => hheap b B e i hB hi⟩⟩⟩
 refine ⟨k2.bel, k2.hB, fun a u ha => k2.frz a u (hEE2.f _ _ ha), fun b e i hi => k2.jlt b e i (hJ3 b e i hi).1, fun b e i hi => ?_, fun b e i b' e' i' ha hb hg => k2.inj b e i b' e' i' (hJ3 _ _ _ ha).1 (hJ3 _ _ _ hb).1 hg,
  fun b B hb => ?_, fun b B e i hb hi => ?_, fun b B e hb hlo hhi => ?_, fun k p hk => by { obtain ⟨a1, ⟨o, a2, a3⟩, a4⟩ := k2.oth k p hk; exact ⟨a1, ⟨o, a2, a3.same rfl⟩, fun b e i hi => a4 b e i (hJ3 b e i hi).1⟩ }, fun a u ha => k2.unf a u (hEE2.f _ _ ha), k2.gd, fun b B e i a u hb hi ha hg => ?_⟩
 ·rcases (hJ3 b e i hi).2 with ⟨_, c⟩ | ⟨_, c⟩
  ·obtain ⟨B, hB⟩ := hR.jb b e i c
   exact ⟨B, hbo b B hB⟩
  ·obtain ⟨B, hB⟩ := k2.jb b e i (hJ3 b e i hi).1
   exact ⟨B, hbK b B c hB⟩
 ·rcases hblk b B hb with ⟨c1, c2⟩ | ⟨c1, c2, c3⟩
  ·obtain ⟨a1, a2⟩ := hR.dom b B c2
   exact ⟨by show b < σ2.next; omega, a2⟩
  ·exact k2.dom b B c3
 ·rcases hblk b B hb with ⟨c1, c2⟩ | ⟨c1, c2, c3⟩
  ·rcases (hJ3 b e i hi).2 with ⟨_, c⟩ | ⟨c, _⟩
   ·exact hR.jep b B e i c2 c
   ·omega
  ·exact k2.jep b B e i c3 (hJ3 b e i hi).1
 ·rcases hblk b B hb with ⟨c1, c2⟩ | ⟨c1, c2, c3⟩
  ·obtain ⟨i, a1, a2, a3, a4⟩ := hR.blk b B e c2 hlo hhi
   exact ⟨i, hE3.j _ _ _ a1, a2, a3, (a4.heap (hheap b B e i c2 a1)).mono hE3⟩
  ·obtain ⟨i, a1, a2, a3, arr, ty, fr, b1, b2, b3, b4, b5⟩ := k2.blk b B e c3 hlo hhi
   refine ⟨i, hJK b e i c2 a1, a2, a3, arr, ty, fr, b1, b2, b3, b4, b5.1, fun j p q => ?_⟩
   obtain ⟨B', v', K', d', m1, m2, m3⟩ := kH_ D2 r v0 K h3 b c2
   rw [c3] at m1; injection m1 with m1; subst m1
   have hmem : (B.cells.take i.len)[j] ∈ B.cells := List.mem_of_mem_take (List.getElem_mem _)
   obtain ⟨x, S', n1, n2⟩ := kk_ m2 _ hmem
   exact rq_ hJK d' _ _ _ _ n1 (fun b hb => m3 b (n2 b hb)) (b5.2 j p q)
 ·rcases hblk b B hb with ⟨c1, c2⟩ | ⟨c1, c2, c3⟩
  ·rcases (hJ3 b e i hi).2 with ⟨_, c⟩ | ⟨c, _⟩
   ·exact hR.nof b B e i a u c2 c ha hg
   ·omega
  ·exact k2.nof b B e i a u c3 (hJ3 b e i hi).1 (hEE2.f _ _ ha) hg
structure Lp (E : Env) (w : World) (B0 l : Nat) (o : Obj) : Prop where
 O : E.O l = none
 B : B0 ≤ l
 J : ∀ b e i, E.J b e = some i → i.g ≠ l
 h : w.heap[l]? = some o
 nc : o.isCells = false
theorem Lp.tell {E : Env} {w w0 : World} {B0 l : Nat} {o : Obj} {σ : St} (h : Lp E w B0 l o) (hR : Rel B0 w0 E σ w) : ∃ E1, Env.Le E E1 ∧ Rel B0 w0 E1 σ w ∧ E1.O l = some (some o) := by
 obtain ⟨k1, k2⟩ := hR.tellO h.B h.h h.nc h.O h.J
 exact ⟨_, k1, k2, by simp⟩
theorem Lp.back {E E2 : Env} {w w' w0 : World} {B0 l : Nat} {o : Obj} {σ' : St} (h : Lp E w B0 l o) (hle : Env.Le E E2) (hR : Rel B0 w0 E2 σ' w') (hO : E2.O l = some (some o)) : Env.Le E (E2.cut l) ∧ Rel B0 w0 (E2.cut l) σ' w' ∧ Lp (E2.cut l) w' B0 l o := by
 obtain ⟨a0, ⟨o', a1, rfl, a2⟩, a3⟩ := hR.oth l _ hO
 exact ⟨Env.cut_le hle h.O, hR.cut (by rw [hO]; simp), ⟨by show (if l = l then none else _) = none; simp, h.B, a3, a1, h.nc⟩⟩
theorem of_ {ops : Array Oper} {ks : List Nat} {fr fr' : Fr} (hs : SOps P ops ks fr fr') {rd n B0} {w0 : {u : World // Ini P B0 u}} {E w a l o} {r : List Nat} {Q : Exit → Act → World → Prop} (hall : ops.all (dOk n) = true) (hn : a.tmps.size = n) (hR : Rel B0 w0.1 E fr.σ w) (hS : b6_ E a fr.s) (hL : Lp E w B0 l o)
  (hQ : ∀ a' w' E', Env.Le E E' → Rel B0 w0.1 E' fr'.σ w' → b6_ E' a' fr'.s → a'.defers = a.defers → a'.tmps.size = n → Keep E fr.σ w fr'.σ w' → Lp E' w' B0 l o → wpOpsIn (FR rd) 0 P ops Q r a' w') : wpOpsIn (FR rd) 0 P ops Q (ks ++ r) a w := by
 obtain ⟨E1, e1, e2, e3⟩ := hL.tell hR
 refine hs rd n B0 w0 E1 w a r Q hall hn e2 (hS.mono e1) fun a' w' hA => ?_
 obtain ⟨E2, m1, m2, m3, m4, m5, m6⟩ := hA
 have hO := m1.o _ _ e3
 obtain ⟨k1, k2, k3⟩ := hL.back (e1.trans m1) m2 hO
 exact hQ a' w' _ k1 k2 (m3.cut (by rw [hO]; simp)) m4 m5 ⟨m6.nx, m6.hs, fun b B hb => by
  obtain ⟨B', c1, c2, c3⟩ := m6.old b B hb
  exact ⟨B', c1, c2, fun hv e i hi => c3 hv e i (e1.j _ _ _ hi)⟩⟩ k3
theorem t4_ {rd : Option Nat} {n m : Nat} {c : Code} {Q : Exit → Act → World → Prop} {a : Act} {w : World} (h : c.wpIn (FR rd) n P Q a w) : c.wpIn (FR rd) m P Q a w := fun b k cs h1 h2 _ => h b k cs h1 h2 (fun d hd => by cases hd)
theorem DfOk.cut {d0 l : Nat} {E : Env} {w : World} {a : Act} {o : Obj} (h : DfOk d0 E w a) (hO : E.O l = some (some o)) (hne : o ≠ .deferred (some [])) : DfOk d0 (E.cut l) w a := by
 obtain ⟨h0, Ds, h1, h2, h3⟩ := h
 refine ⟨h0, Ds, h1, h2, fun D hD => ⟨(h3 D hD).1, ?_⟩⟩
 have h4 := (h3 D hD).2
 show (if D = l then none else E.O D) = _
 rw [if_neg (fun e => by subst e; rw [hO] at h4; injection h4 with h4; injection h4 with h4; exact hne h4)]; exact h4
theorem mt_ {c : Code} {fr fr' : Fr} (hc : eh_ P c fr .normal fr') (hnr : noRange c = true) {l0 m n d0 B0} {w0 : {u : World // Ini P B0 u}} {E w a l o} {Q : Exit → Act → World → Prop} (hne : o ≠ .deferred (some [])) (hall : dstsOk n c = true) (hn : a.tmps.size = n) (hd : DfOk d0 E w a) (hR : Rel B0 w0.1 E fr.σ w) (hS : b6_ E a fr.s) (hL : Lp E w B0 l o)
  (hQ : ∀ a' w' E', Env.Le E E' → Rel B0 w0.1 E' fr'.σ w' → b6_ E' a' fr'.s → DfOk d0 E' w' a' → a'.tmps.size = n → Keep E fr.σ w fr'.σ w' → Lp E' w' B0 l o → Q .normal a' w') : c.wpIn (FR (some l0)) m P Q a w := by
 obtain ⟨E1, e1, e2, e3⟩ := hL.tell hR
 refine t4_ (hc (some l0) n d0 B0 w0 E1 w a Q (.inr hnr) hall hn (hd.mono e1 (Nat.le_refl _) rfl) e2 (hS.mono e1) fun a' w' hA => ?_)
 obtain ⟨E2, m1, m2, m3, m4, m5, m6⟩ := hA
 have hO := m1.o _ _ e3
 obtain ⟨k1, k2, k3⟩ := hL.back (e1.trans m1) m2 hO
 exact hQ a' w' _ k1 k2 (m3.cut (by rw [hO]; simp)) (m4.cut hO hne) m5 ⟨m6.nx, m6.hs, fun b B hb => by
  obtain ⟨B', c1, c2, c3⟩ := m6.old b B hb
  exact ⟨B', c1, c2, fun hv e i hi => c3 hv e i (e1.j _ _ _ hi)⟩⟩ k3
theorem Lp.turn {E : Env} {w w0 : World} {B0 l : Nat} {o o' : Obj} {σ : St} (h : Lp E w B0 l o) (hR : Rel B0 w0 E σ w) (hc : o'.isCells = false) : Rel B0 w0 E σ (w.putObj l o') ∧ Keep E σ w σ (w.putObj l o') ∧ Lp E (w.putObj l o') B0 l o' := by
 obtain ⟨k1, k2⟩ := hR.turn (o := o') h.B h.h h.nc h.O h.J
 exact ⟨k1, k2, ⟨h.O, h.B, h.J, World.putObj_heap_same (Array.getElem?_eq_some_iff.1 h.h).1, hc⟩⟩
theorem iL_ {E : Env} : ∀ {ps : List Nat} {vs : List Value} {ts : List T} {tmps : Array Value} {s : Nat → T}, b6_ E { tmps := tmps, defers := [] } s → VL E vs ts → (∀ p ∈ ps, p < tmps.size) →
  b6_ E { tmps := (ps.zip vs).foldl (fun t (p, v) => t.setIfInBounds p v) tmps, defers := [] } (putPs s (ps.zip ts)) ∧ ((ps.zip vs).foldl (fun t (p, v) => t.setIfInBounds p v) tmps).size = tmps.size
 | [], vs, ts, tmps, s, hS, hv, hp => ⟨hS, rfl⟩
 | p :: ps, [], ts, tmps, s, hS, hv, hp => by
  have : ts = [] := by have := hv.1; cases ts with | nil => rfl | cons _ _ => simp at this
  subst this
  exact ⟨hS, rfl⟩
 | p :: ps, v :: vs, [], tmps, s, hS, hv, hp => by have := hv.1; simp at this
 | p :: ps, v :: vs, t :: ts, tmps, s, hS, hv, hp => by
  have h1 : b6_ E { tmps := tmps.setIfInBounds p v, defers := [] } (fun j => if j = p then t else s j) := fun j => by
   by_cases hj : j = p
   ·subst hj
    have := hp j (by simp)
    simp [this]; exact hv.head
   ·have e : (tmps.setIfInBounds p v).getD j undef = tmps.getD j undef := by simp [Array.getElem?_setIfInBounds_ne (Ne.symm hj)]
    show V E ((tmps.setIfInBounds p v).getD j undef) (if j = p then t else s j)
    rw [e, if_neg hj]; exact hS j
  obtain ⟨k1, k2⟩ := iL_ (ps := ps) h1 hv.tail (fun q hq => by rw [Array.size_setIfInBounds]; exact hp q (by simp [hq]))
  exact ⟨k1, by rw [show (((p :: ps).zip (v :: vs)).foldl (fun t (p, v) => t.setIfInBounds p v) tmps).size = ((ps.zip vs).foldl (fun t (p, v) => t.setIfInBounds p v) (tmps.setIfInBounds p v)).size from rfl, k2, Array.size_setIfInBounds]⟩
def rcd (st : LoopState) (fnid : Nat) (tmps : Array Value) (ps : Array Nat) (assign body : Code) (D : Nat) : Loop := { state := st, pending := none, fn := fnid, tmps := tmps, params := ps, assign := assign, body := body, defers := D }
theorem qn_ {assign body : Code} {s : Nat → T} {ps : Array Nat} {ts : List T} {b1 b2 : Fr} {σ : St} (h7 : eh_ P assign ⟨putPs s (ps.toList.zip ts), σ⟩ .normal b1) (h8 : eh_ P body b1 .normal b2) {n : Nat} (ha : noRange assign = true) (hb : noRange body = true) (da : dstsOk n assign = true) (db : dstsOk n body = true) (dp : ps.all (fun p => decide (p < n)) = true)
  {m B0 l fnid D : Nat} {w0 : {u : World // Ini P B0 u}} {E : Env} {w : World} {tmps : Array Value} {vs : List Value} (hn : tmps.size = n) (hS : b6_ E { tmps := tmps, defers := [] } s) (hv : VL E vs ts) (hl : ts.length = ps.size) (hR : Rel B0 w0.1 E σ w) (hL : Lp E w B0 l (.loop (rcd .ready fnid tmps ps assign body D))) :
  (Instr.yield l vs.toArray).run P w = .ok (.round l fnid ((ps.zip vs.toArray).foldl (fun t (p, v) => t.setIfInBounds p v) tmps) assign body) w ∧
  RoundIn Fence.wide m P l fnid ((ps.zip vs.toArray).foldl (fun t (p, v) => t.setIfInBounds p v) tmps) assign body w (fun e w' => e = .returned (.bool true) ∧ ∃ E', Env.Le E E' ∧ Rel B0 w0.1 E' b2.σ w' ∧ Keep E σ w b2.σ w' ∧ Lp E' w' B0 l (.loop (rcd .ready fnid tmps ps assign body D))) := by
 have hps : vs.toArray.size = ps.size := by rw [List.size_toArray, hv.1, hl]
 refine ⟨by have := run_yield (P := P) (args := vs.toArray) hL.h (by exact hps); exact this, roundIn_of_wpIn trivial ?_⟩
 have hz : (ps.zip vs.toArray).foldl (fun t (p, v) => t.setIfInBounds p v) tmps = (ps.toList.zip vs).foldl (fun t (p, v) => t.setIfInBounds p v) tmps := by
  rw [← Array.foldl_toList, Array.toList_zip]
 rw [hz]
 obtain ⟨k1, k2⟩ := iL_ (ps := ps.toList) hS hv (fun p hp => by
  have := (Array.all_eq_true_iff_forall_mem.1 dp) p (Array.mem_toList_iff.1 hp)
  rw [hn]; simpa using this)
 refine mt_ h7 ha (l0 := l) (d0 := w.heap.size) (by simp) da (by rw [k2, hn]) ⟨Nat.le_refl _, [], rfl, List.nodup_nil, fun D hD => by cases hD⟩ hR k1 hL fun a1 w1 E1 e1 e2 e3 e4 e5 e6 e7 => ?_
 refine ⟨_, run_beginRound e7.h rfl, ?_⟩
 obtain ⟨g1, g2, g3⟩ := e7.turn e2 (o' := .loop { rcd .ready fnid tmps ps assign body D with state := .busy }) rfl
 refine mt_ h8 hb (l0 := l) (by simp) db e5 (e4.mono (.refl _) g2.hs rfl) g1 e3 g3 fun a2 w2 E2 f1 f2 f3 f4 f5 f6 f7 => ?_
 obtain ⟨q1, q2, q3⟩ := f7.turn f2 (o' := .loop (rcd .ready fnid tmps ps assign body D)) rfl
 exact ⟨_, _, run_endRound none f7.h, rfl, E2, e1.trans f1, q1, Keep.trans e1 e6 (Keep.trans (.refl _) g2 (Keep.trans f1 f6 q2)), q3⟩
def It.lp (I : It) : Code := .seq (.seq (.region I.n1 I.R1 false) (.cond I.c1 .skip (.exit I.i0))) (.seq (.block I.i2 (.seq (.region I.n3 I.R3 false) (.cond I.c2 .ret .skip))) (.region I.n2 I.R2 false))
def SYld (P : Program) (l : Nat) (I : It) (ps : Array Nat) (assign body : Code) (s : Nat → T) (it it' : Fr) : Prop :=
 ∃ m, ∀ nI n B0 (w0 : {u : World // Ini P B0 u}) E w a tmps fnid D (Q : Exit → Act → World → Prop), dstsOk nI I.lp = true → noRange assign = true → noRange body = true → dstsOk n assign = true → dstsOk n body = true → ps.all (fun p => decide (p < n)) = true →
  a.tmps.size = nI → a.defers = [] → tmps.size = n → b6_ E { tmps := tmps, defers := [] } s → Rel B0 w0.1 E it.σ w → b6_ E a it.s → Lp E w B0 l (.loop (rcd .ready fnid tmps ps assign body D)) →
  (∀ a' w' E', Env.Le E E' → Rel B0 w0.1 E' it'.σ w' → b6_ E' a' it'.s → a'.defers = [] → a'.tmps.size = nI → Keep E it.σ w it'.σ w' → Lp E' w' B0 l (.loop (rcd .ready fnid tmps ps assign body D)) → Q (.exit I.i0) a' w') →
  Code.roundsIn (FR none) 0 P I.lp Q m a w
theorem gT_ {ops : Array Oper} {ks : List Nat} {fr fr' : Fr} (hs : SOps P ops ks fr fr') {rd n B0} {w0 : {u : World // Ini P B0 u}} {E w a l o} {Q : Exit → Act → World → Prop} (hall : ops.all (dOk n) = true) (hn : a.tmps.size = n) (hR : Rel B0 w0.1 E fr.σ w) (hS : b6_ E a fr.s) (hL : Lp E w B0 l o)
  (hQ : ∀ a' w' E', Env.Le E E' → Rel B0 w0.1 E' fr'.σ w' → b6_ E' a' fr'.s → a'.defers = a.defers → a'.tmps.size = n → Keep E fr.σ w fr'.σ w' → Lp E' w' B0 l o → Q .normal a' w') : wpOpsIn (FR rd) 0 P ops Q ks a w := by
 have := of_ hs (rd := rd) (r := []) (Q := Q) hall hn hR hS hL hQ
 rwa [List.append_nil] at this
theorem oy_ {l : Nat} {I : It} {ps : Array Nat} {assign body : Code} {s : Nat → T} {it it1 : Fr} (h : SOps P I.R1 (List.range I.R1.size) it it1) (hc : evalO it1.s I.c1 = some (.bool false)) : SYld P l I ps assign body s it it1 := by
 refine ⟨1, ?_⟩
 intro nI n B0 w0 E w a tmps fnid D Q hd _ _ _ _ _ hn hdf _ _ hR hS hL hQ
 simp only [It.lp, dstsOk, Bool.and_eq_true] at hd
 show I.lp.wpIn _ _ _ (Exit.then (Code.roundsIn (FR none) 0 P I.lp Q 0) Q) a w
 refine wpIn_seq (wpIn_seq (wpIn_region ?_))
 exact gT_ h (rd := none) hd.1.1 hn hR hS hL fun a' w' E' e1 e2 e3 e4 e5 e6 e7 => wpIn_cond (t := false) (ak_ e3 hc).bool_inv (wpIn_exit (hQ a' w' E' e1 e2 e3 (by rw [e4, hdf]) e5 e6 e7))
theorem nL_ {l : Nat} {o : Oper} {ts : List T} {E : Env} {a : Act} {s : Nat → T} (hS : b6_ E a s) (h : yOp l s o = some ts) : o.guard = none ∧ (∀ c, o.op ≠ .defer c) ∧ ∃ vs : List Value, VL E vs ts ∧ ∀ w, (execOp a.eval o).run P w = (Instr.yield l vs.toArray).run P w := by
 obtain ⟨d, op, ty, ps, af, g⟩ := o
 unfold yOp at h
 split at h
 ·rename_i c hg ho
  simp only at hg ho
  subst hg; subst ho
  split at h
  ·rename_i y hc
   split at h
   ·rename_i l' hy
    split at h
    ·rename_i e
     subst e
     have ev := ak_ hS hy
     obtain ⟨xs, hx⟩ : ∃ xs, xs = a.eval y := ⟨_, rfl⟩
     rw [← hx] at ev
     cases ev
     refine ⟨rfl, fun c h => (by cases h), _, ei_ hS h, fun w => ?_⟩
     have emap : c.args.map a.eval = (c.args.toList.map a.eval).toArray := by apply Array.ext'; simp
     simp [execOp, resolve, hc, ← hx, Deferred.ofValue, Sem.run_bind, Sem.run_pure, Result.andThen_ok, invoke, emap]
    ·cases h
   ·cases h
  ·cases h
 ·cases h
theorem rO_ {l : Nat} {I : It} {ps : Array Nat} {assign body : Code} {s : Nat → T} {it it1 it2 it3 it4 it5 b1 b2 : Fr} {k : Nat} {o : Oper} {ts : List T} (h1 : SOps P I.R1 (List.range I.R1.size) it it1) (h2 : evalO it1.s I.c1 = some (.bool true)) (h3 : SOps P I.R3 (List.range k) it1 it2) (h4 : I.R3[k]? = some o) (h5 : yOp l it2.s o = some ts) (h6 : ts.length = ps.size)
  (h7 : eh_ P assign ⟨putPs s (ps.toList.zip ts), it2.σ⟩ .normal b1) (h8 : eh_ P body b1 .normal b2) (h9 : SOps P I.R3 (List.range' (k + 1) (I.R3.size - (k + 1))) (it2.put o.dst (.bool true) b2.σ) it3) (h10 : evalO it3.s I.c2 = some (.bool false)) (h11 : SOps P I.R2 (List.range I.R2.size) it3 it4) (h12 : SYld P l I ps assign body s it4 it5) : SYld P l I ps assign body s it it5 := by
 obtain ⟨m, h12⟩ := h12
 refine ⟨m + 1, ?_⟩
 intro nI n B0 w0 E w a tmps fnid D Q hd ha hb da db dp hn hdf htn hSt hR hS hL hQ
 have hd' := hd
 simp only [It.lp, dstsOk, Bool.and_eq_true] at hd'
 obtain ⟨⟨d1, _⟩, ⟨d3, _⟩, d2⟩ := hd'
 show I.lp.wpIn _ _ _ (Exit.then (Code.roundsIn (FR none) 0 P I.lp Q m) Q) a w
 refine wpIn_seq (wpIn_seq (wpIn_region ?_))
 refine gT_ h1 (rd := none) d1 hn hR hS hL fun a1 w1 E1 e1 e2 e3 e4 e5 e6 e7 => ?_
 refine wpIn_cond (t := true) (ak_ e3 h2).bool_inv (wpIn_skip ?_)
 refine wpIn_seq (wpIn_block (wpIn_seq (wpIn_region ?_)))
 have hk : k < I.R3.size := (Array.getElem?_eq_some_iff.1 h4).1
 have hsplit : List.range I.R3.size = List.range k ++ (k :: List.range' (k + 1) (I.R3.size - (k + 1))) := by
  have e := @List.range'_append_1 0 k (I.R3.size - (k + 1) + 1)
  rw [Nat.zero_add] at e
  rw [List.range_eq_range', List.range_eq_range', ← List.range'_succ, e]
  congr 1; omega
 rw [hsplit]
 refine of_ h3 (rd := none) d3 e5 e2 e3 e7 fun a2 w2 E2 f1 f2 f3 f4 f5 f6 f7 => ?_
 rw [wpOpsIn_cons]
 obtain ⟨g1, g2, vs, g3, g4⟩ := nL_ f3 h5
 refine fI_ h4 (by simp [Region.wanted, g1]) (eK_ g2 ?_)
 rw [g4]
 obtain ⟨q1, q2⟩ := qn_ (P := P) h7 h8 ha hb da db dp htn (hSt.mono (e1.trans f1)) g3 h6 f2 f7 (m := 0 - 1)
 rw [q1, Oper.uponIn_round]
 refine ⟨fun h => (by cases h), RoundIn.mono q2 ?_⟩
 rintro e w3 ⟨rfl, E3, p1, p2, p3, p4⟩
 have hpS : b6_ E3 (a2.put o.dst (.bool true)) (it2.put o.dst (.bool true) b2.σ).s := (f3.mono p1).put (.bool true) (by rw [f5]; exact gL_ d3 h4) it2.σ b2.σ
 refine gT_ h9 (rd := none) d3 (by rw [mi_, f5]) (by rw [Fr.put_σ]; exact p2) hpS p4 fun a4 w4 E4 r1 r2 r3 r4 r5 r6 r7 => ?_
 rw [Fr.put_σ] at r6
 refine wpIn_cond (t := false) (ak_ r3 h10).bool_inv (wpIn_skip ?_)
 refine wpIn_region (gT_ h11 (rd := none) d2 r5 r2 r3 r7 fun a5 w5 E5 s1 s2 s3 s4 s5 s6 s7 => ?_)
 have le5 : Env.Le E E5 := e1.trans (f1.trans (p1.trans (r1.trans s1)))
 refine h12 nI n B0 w0 E5 w5 a5 tmps fnid D Q hd ha hb da db dp s5 (by rw [s4, r4, iO_, f4, e4, hdf]) htn (hSt.mono le5) s2 s3 s7 fun a' w' E' t1 t2 t3 t4 t5 t6 t7 => ?_
 exact hQ a' w' E' (le5.trans t1) t2 t3 t4 t5 (Keep.trans e1 e6 (Keep.trans f1 f6 (Keep.trans p1 p3 (Keep.trans r1 r6 (Keep.trans s1 s6 t6))))) t7
theorem Rel.allocO {B0 : Nat} {w0 w : World} {E : Env} {σ : St} (h : Rel B0 w0 E σ w) {o : Obj} (hc : o.isCells = false) : Rel B0 w0 E σ (w.alloc o) ∧ Keep E σ w σ (w.alloc o) ∧ Lp E (w.alloc o) B0 w.heap.size o := by
 have hsz : (w.alloc o).heap.size = w.heap.size + 1 := World.size_alloc w o
 have hold : ∀ k, k < w.heap.size → (w.alloc o).heap[k]? = w.heap[k]? := fun k hk => by
  show (w.heap.push o)[k]? = _
  rw [Array.getElem?_push, if_neg (by omega)]
 have hfa : ∀ a u, E.F a = some u → a.block < w.heap.size := fun a u ha => World.block_lt_of_cell? w a (h.frz a u ha)
 refine ⟨⟨?_, by rw [hsz]; have := h.hB; omega, fun a u ha => ?_, fun b e i hi => ?_, h.jb, h.inj, h.dom, h.jep, fun b B e h1 h2 h3 => ?_, fun k q hk => ?_, fun a u ha => ?_, fun k f hk => ?_, h.nof⟩, ⟨Nat.le_refl _, by omega, fun b B hb => ⟨B, hb, Nat.le_refl _, fun _ e i hi => hold _ (h.jlt b e i hi).2.2⟩⟩, ⟨?_, h.hB, fun b e i hi => by have := (h.jlt b e i hi).2.2; omega, World.alloc_heap_new w o, hc⟩⟩
 ·exact h.bel.trans ⟨rfl, rfl, rfl, by omega, fun k hk => hold k (by have := h.hB; omega)⟩
 ·have := h.frz a u ha
  unfold World.cell? at this ⊢
  rw [hold _ (hfa a u ha)]; exact this
 ·obtain ⟨b1, b2, b3⟩ := h.jlt b e i hi; exact ⟨b1, b2, by omega⟩
 ·obtain ⟨i, b1, b2, b3, b4⟩ := h.blk b B e h1 h2 h3
  exact ⟨i, b1, b2, b3, b4.heap (hold _ (h.jlt _ _ _ b1).2.2)⟩
 ·obtain ⟨b1, ⟨o', b2, b3⟩, b4⟩ := h.oth k q hk
  exact ⟨b1, ⟨o', by rw [hold k (Array.getElem?_eq_some_iff.1 b2).1]; exact b2, b3⟩, b4⟩
 ·rw [ew_ (hold _ (hfa a u ha))]; exact h.unf a u ha
 ·obtain ⟨c, t, h1⟩ := h.gd k f hk
  exact ⟨c, t, by rw [hold k (Array.getElem?_eq_some_iff.1 h1).1]; exact h1⟩
 ·cases hE : E.O w.heap.size with
  | none => rfl
  | some p =>
   obtain ⟨_, ⟨o', b1, _⟩, _⟩ := h.oth _ p hE
   have := (Array.getElem?_eq_some_iff.1 b1).1
   omega
theorem l8_ {g : Operand} {ps : Array Nat} {assign body : Code} {fr : Fr} {it0 it1 : Nat → Fr} {σ1 : St} {f : Nat} {us : List T} {fn : Func} {I : It} (h1 : evalO fr.s g = some (.fn f [] us)) (h3 : P.funcs[f]? = some fn) (h4 : (fn.name == "runtime.NumGoroutine") = false) (h5 : fn.body = some I.code) (hres : fn.results.toList = []) (h6 : dstsOk fn.ntmps I.code = true) (h7 : us.length + 1 ≤ fn.ntmps)
  (h8 : ∀ l, SOps P I.R0 (List.range I.R0.size) ⟨enterS (.yld l :: us), fr.σ⟩ (it0 l)) (h9 : ∀ l, SYld P l I ps assign body fr.s (it0 l) (it1 l)) (h10 : ∀ l, (it1 l).σ = σ1) : eh_ P (.rangeFunc g ps assign body) fr .normal ⟨fr.s, σ1⟩ := by
 intro rd n d0 B0 w0 E w a Q hrd hall hn hdf hR hS hQ
 have hrd : rd = none := by
  rcases hrd with h | h
  ·exact h
  ·cases h
 subst hrd
 simp only [dstsOk, Bool.and_eq_true] at hall
 obtain ⟨dp, da, db, ha, hb⟩ := hall
 obtain ⟨xs, ys, hg, hx, hy⟩ := V.fn_iff.1 (ak_ hS h1)
 have hxs : xs = #[] := by have := hx.1; simpa using this
 subst hxs
 have en : nc_ P f := ⟨fn, _, h3, h4, h5⟩
 refine wpIn_rangeFunc fun fnid _ => ?_
 obtain ⟨k1, k2, k3⟩ := hR.allocO (o := .deferred (some [])) rfl
 obtain ⟨E1, e1, e2, e3⟩ := k3.tell k1
 obtain ⟨q1, q2, q3⟩ := e2.allocO (o := .loop (rcd .ready fnid a.tmps ps assign body w.heap.size)) rfl
 have hKE : Keep E fr.σ w fr.σ ((w.alloc (.deferred (some []))).alloc (.loop (rcd .ready fnid a.tmps ps assign body w.heap.size))) := Keep.trans (Env.Le.refl E) k2 (Keep.of_le e1 q2)
 rw [World.size_alloc] at q3
 obtain ⟨W1, hW1⟩ : ∃ W1, (w.alloc (.deferred (some []))).alloc (.loop (rcd .ready fnid a.tmps ps assign body w.heap.size)) = W1 := ⟨_, rfl⟩
 rw [hW1] at q1 q2 q3 hKE
 refine ⟨w.heap.size + 1, [{ target := .collected w.heap.size, args := #[] }], W1, { target := .fn (.func f) ys, args := #[.func (.yield (w.heap.size + 1)) #[] #[]] }, W1, f,
  #[.func (.yield (w.heap.size + 1)) #[] #[]] ++ ys, W1, ?_, ?_, fun _ _ => trivial, ?_, fun h => (by cases h), ?_⟩
 ·rw [← hW1]; exact run_enterLoop_outer _ _ _ _ _
 ·simp only [resolve, rangeCall, hg]
  simp [go_sem]
 ·simp [invoke, go_sem, eV_ en]
 have hvl : VL E1 (Value.func (.yield (w.heap.size + 1)) #[] #[] :: ys.toList) (.yld (w.heap.size + 1) :: us) := .cons (.yld _) (hy.mono e1)
 have hys : ys.size = us.length := by have := hy.1; simpa using this
 refine callsIn_of_wp_marks (F := Fence.wide) (n := 0) h3 h5 trivial ?_
 have hsl := hM_ hvl (fn.ntmps - (us.length + 1))
 rw [show #[Value.func (.yield (w.heap.size + 1)) #[] #[]] ++ ys = (Value.func (.yield (w.heap.size + 1)) #[] #[] :: ys.toList).toArray by apply Array.ext'; simp]
 have hd := h6
 simp only [It.code, dstsOk, Bool.and_eq_true] at hd
 obtain ⟨d0', d1'⟩ := hd
 obtain ⟨m, hm⟩ := h9 (w.heap.size + 1)
 refine wpIn_seq (wpIn_region ?_)
 refine gT_ (h8 (w.heap.size + 1)) (rd := none) (n := fn.ntmps) d0' ?_ q1 (by simpa [hys] using hsl) q3 fun a1 w1 E2 r1 r2 r3 r4 r5 r6 r7 => ?_
 ·simp [hys]; omega
 refine wpIn_block (wpIn_loop_rounds m ?_)
 refine hm fn.ntmps n B0 w0 E2 w1 a1 a.tmps fnid w.heap.size _ ?_ ha hb da db dp r5 (by rw [r4]) hn (fun j => (hS.mono (e1.trans r1)) j) r2 r3 r7 fun a' w' E' t1 t2 t3 t4 t5 t6 t7 => ?_
 ·simp only [It.lp, dstsOk, Bool.and_eq_true]; exact d1'
 obtain ⟨v, z1, z2⟩ := jq_ (P := P) (fn := fn) (r := .tup []) t2 t3 (by unfold resA; rw [hres]; rfl)
 have hfin : LeavesInM Fence.wide 0 P fn a'.tmps (rangePost (FR none) 0 P (w.heap.size + 1) Q { a with defers := [{ target := .collected w.heap.size, args := #[] }] ++ a.defers }) a'.defers .returning w' := by
  rw [t4]
  refine ⟨v, z1, ?_⟩
  obtain ⟨y1, y2, y3⟩ := t7.turn t2 (o' := .loop { rcd .ready fnid a.tmps ps assign body w.heap.size with state := .exhausted }) rfl
  refine ⟨none, _, run_endLoop t7.h (by simp [rcd]), ?_⟩
  have le' : Env.Le E E' := e1.trans (r1.trans t1)
  refine hQ _ _ ⟨E', le', by rw [← h10 (w.heap.size + 1)]; exact y1, fun j => (hS.mono le') j, ?_, hn, ?_⟩
  ·obtain ⟨c0, Ds, c1, c2, c3⟩ := hdf
   refine ⟨?_, w.heap.size :: Ds, by show _ ++ a.defers = _; rw [c1]; rfl, List.nodup_cons.2 ⟨fun hD => ?_, c2⟩, fun D hD => ?_⟩
   ·exact Nat.le_trans c0 (Nat.le_trans hKE.hs (Nat.le_trans r6.hs (Nat.le_trans t6.hs y2.hs)))
   ·obtain ⟨_, ⟨o', b1, _⟩, _⟩ := hR.oth _ _ (c3 _ hD).2
    have := (Array.getElem?_eq_some_iff.1 b1).1
    omega
   ·rcases List.mem_cons.1 hD with rfl | hD
    ·exact ⟨c0, (r1.trans t1).o _ _ e3⟩
    ·exact ⟨(c3 _ hD).1, le'.o _ _ (c3 _ hD).2⟩
  ·rw [← h10 (w.heap.size + 1)]
   exact Keep.trans e1 hKE (Keep.trans r1 r6 (Keep.trans t1 t6 y2))
 have hb' : Exit.inBlock I.i0 (bodyPostM Fence.wide 0 P fn (rangePost (FR none) 0 P (w.heap.size + 1) Q { a with defers := [{ target := .collected w.heap.size, args := #[] }] ++ a.defers })) (.exit I.i0) a' w' := by
  simp only [Exit.inBlock, if_true]; exact hfin
 exact hb'
theorem sound (hmix : P.follows .mixedOrders = true) {vm : Nat → Md} {X : Ext} (hX : ∀ f g args σ r σ', X f = some g → g args σ = some (r, σ') → gN_ P f args σ r σ') :
  ∀ {f args σ r σ'}, EvCall P vm X f args σ r σ' → gN_ P f args σ r σ' := by
 intro f args σ r σ' h
 refine EvCall.rec (P := P) (vm := vm) (X := X) (motive_1 := fun f args σ r σ' _ => gN_ P f args σ r σ') (motive_2 := fun f args σ r σ' _ => gN_ P f args σ r σ') (motive_3 := fun ops k o fr fr' _ => SOp P ops o fr fr')
  (motive_4 := fun ops b l fr fr' _ => SOps P ops l fr fr') (motive_5 := fun c fr x fr' _ => eh_ P c fr x fr') (motive_6 := fun c n fr x fr' _ => SRnd P c n fr x fr') (motive_7 := fun l I ps assign body s it it' _ => SYld P l I ps assign body s it it')
  ?_ ?_ ?_ ?_ ?_ ?_ ?_ ?_ ?_ ?_ ?_ ?_ ?_ ?_ ?_ ?_ ?_ ?_ ?_ ?_ ?_ ?_ ?_ ?_ ?_ ?_ ?_ h
 ·intro f fn c args σ x fr r _ h1 h2 h3 h4 h5 _ h7 h8 ih; exact ql_ h1 h2 h3 h4 h5 ih h7 h8
 ·intro f g args σ r σ' h1 h2; exact hX _ _ _ _ _ _ h1 h2
 ·intro f args σ r σ' _ _ ih; exact ih
 ·intro D1 D2 f args σ args' S r σ2 r' S2 _ h1 _ h3 h4 h5 ih; exact jB_ h1 ih h3 h4 h5
 ·intro D1 D2 f args σ args' S r σ2 v K _ h1 _ h3 h4 h5 ih; exact k5_ h1 ih h3 h4 h5
 ·intro ops k o fr h; exact pU_ h
 ·intro ops k o fr v σ h1 h2; exact rA_ h1 h2
 ·intro ops k o fr σ h1 h2; exact nO_ h1 h2
 ·intro ops k o fr f args r σ h1 h2 _ ih; exact p5_ h1 h2 ih
 ·intro ops b fr; exact p6_
 ·intro ops b i l o fr fr1 fr2 h1 _ _ ih1 ih2; exact oh_ h1 ih1 ih2
 ·intro fr; exact hI_ fun rd Q a w h => wpIn_skip h
 ·intro id ops fr fr' _ ih; exact kC_ ih
 ·intro id ops fr fr' _ ih; exact nt_ hmix ih
 ·intro a b fr fr1 x fr2 _ _ ih1 ih2; exact oz_ ih1 ih2
 ·intro a b fr x fr1 _ hx ih; exact nG_ ih hx
 ·intro c a b fr x fr' hc _ ih; exact js_ (b := true) hc ih
 ·intro c a b fr x fr' hc _ ih; exact js_ (b := false) hc ih
 ·intro id c fr x fr' _ ih; exact lQ_ ih
 ·intro c n fr x fr' _ ih; exact ns_ ih
 ·intro id fr; exact hI_ fun rd Q a w h => wpIn_exit h
 ·intro fr; exact hI_ fun rd Q a w h => wpIn_ret h
 ·intro g ps assign body fr f us fn I σ1 it0 it1 h1 h3 h4 h5 hres h6 h7 _ _ h10 ih1 ih2; exact l8_ h1 h3 h4 h5 hres h6 h7 ih1 ih2 h10
 ·intro c n fr fr1 x fr2 _ _ ih1 ih2; exact rE_ ih1 ih2
 ·intro c n fr x fr1 _ hx ih; exact oZ_ ih hx
 ·intro l I ps assign body s it it1 _ h2 ih; exact oy_ ih h2
 ·intro l I ps assign body s it it1 it2 it3 it4 it5 o ts b1 b2 _ h2 _ h4 h5 h6 _ _ _ h10 _ _ ih1 ih3 ih7 ih8 ih9 ih11 ih12; exact rO_ ih1 h2 ih3 h4 h5 h6 ih7 ih8 ih9 h10 ih11 ih12
end
end Go.Am
end
section
set_option linter.unusedVariables false
set_option linter.unusedSimpArgs false
namespace Go.Am
open Go.RowKit Classical
theorem as_ {f g : T → Option (T × List Nat)} : ∀ {ts vs : List T} {S : List Nat}, (∀ t v S', t ∈ ts → f t = some (v, S') → (∀ b ∈ S', b ∈ S) → g t = some (v, S')) → frzL f ts = some (vs, S) → frzL g ts = some (vs, S)
 | [], _, _, _, h => h
 | t :: ts, vs, S, hg, h => by
  simp only [frzL] at h ⊢
  obtain ⟨⟨v0, S0⟩, h1, h2⟩ := Option.bind_eq_some_iff.1 h
  obtain ⟨⟨vs', S'⟩, h3, h4⟩ := Option.map_eq_some_iff.1 h2
  injection h4 with h4 h5; subst h4; subst h5
  rw [hg t v0 S0 (by simp) h1 (fun b hb => by simp [hb]), as_ (g := g) (fun t v S1 ht hf hS => hg t v S1 (by simp [ht]) hf (fun b hb => by simp [hS b hb])) h3]
  rfl
theorem mz_ {σ : St} {d : Nat} {z : Bool} {n : Nat} {cs : List T} {v : T} {K : List Nat} (h : own σ d (.row z n cs) = some (v, K)) (σ' : St) (d' : Nat) : own σ' d' (.row z n cs) = some (v, K) := by
 cases z <;> cases n <;> cases cs <;> cases d <;> cases d' <;> simp [own] at h ⊢ <;> exact h
theorem g7_ {σ : St} : ∀ (d : Nat) (t v : T) (S : List Nat), own σ d t = some (v, S) → ∀ d', d ≤ d' → own σ d' t = some (v, S)
 | 0, t, v, S, h, d', _ => by
  cases t with
  | row z n cs => exact mz_ h _ _
  | _ => simp [own] at h <;> cases d' <;> simp [own, h]
 | d + 1, t, v, S, h, d', hd => by
  obtain ⟨d', rfl⟩ : ∃ k, d' = k + 1 := ⟨d' - 1, by omega⟩
  cases t with
  | ref b e off n =>
   simp only [own] at h
   obtain ⟨B, hb, h1⟩ := Option.bind_eq_some_iff.1 h
   split at h1
   ·rename_i hc
    obtain ⟨⟨cs, S1⟩, h2, h3⟩ := Option.map_eq_some_iff.1 h1
    injection h3 with h3 h4; subst h3; subst h4
    have h5 := as_ (g := own σ d') (fun t v S' _ hh hs => g7_ d t v S' hh d' (by omega)) h2
    simp only [own, hb, Option.bind_some, h5, Option.map_some]
    rw [if_pos hc]
   ·cases h1
  | agg cs =>
   simp only [own] at h
   obtain ⟨⟨cs', S1⟩, h2, h3⟩ := Option.map_eq_some_iff.1 h
   injection h3 with h3 h4; subst h3; subst h4
   simp only [own, as_ (g := own σ d') (fun t v S' _ hh hs => g7_ d t v S' hh d' (by omega)) h2, Option.map_some]
  | tup cs =>
   simp only [own] at h
   obtain ⟨⟨cs', S1⟩, h2, h3⟩ := Option.map_eq_some_iff.1 h
   injection h3 with h3 h4; subst h3; subst h4
   simp only [own, as_ (g := own σ d') (fun t v S' _ hh hs => g7_ d t v S' hh d' (by omega)) h2, Option.map_some]
  | row z n cs => exact mz_ h _ _
  | _ => simp [own] at h <;> simp [own, h]
theorem d8_ {σ : St} : ∀ (d : Nat) (t v : T) (S : List Nat), frz σ d t = some (v, S) → ∀ d', d ≤ d' → frz σ d' t = some (v, S)
 | 0, t, v, S, h, d', _ => by
  cases t with
  | ref b e off n => simp [frz] at h
  | agg cs => simp [frz] at h
  | tup cs => simp [frz] at h
  | _ => cases d' <;> simp [frz] at h <;> simp [frz, h]
 | d + 1, t, v, S, h, d', hd => by
  obtain ⟨d', rfl⟩ : ∃ k, d' = k + 1 := ⟨d' - 1, by omega⟩
  cases t with
  | ref b e off n =>
   simp only [frz] at h
   obtain ⟨B, hb, h1⟩ := Option.bind_eq_some_iff.1 h
   split at h1
   ·rename_i hc
    obtain ⟨⟨cs, S1⟩, h2, h3⟩ := Option.map_eq_some_iff.1 h1
    injection h3 with h3 h4; subst h3; subst h4
    have h5 := as_ (g := frz σ d') (fun t v S' _ hh hs => d8_ d t v S' hh d' (by omega)) h2
    simp only [frz, hb, Option.bind_some, h5, Option.map_some]
    rw [if_pos hc]
   ·cases h1
  | agg cs =>
   simp only [frz] at h
   obtain ⟨⟨cs', S1⟩, h2, h3⟩ := Option.map_eq_some_iff.1 h
   injection h3 with h3 h4; subst h3; subst h4
   simp only [frz, as_ (g := frz σ d') (fun t v S' _ hh hs => d8_ d t v S' hh d' (by omega)) h2, Option.map_some]
  | tup cs =>
   simp only [frz] at h
   obtain ⟨⟨cs', S1⟩, h2, h3⟩ := Option.map_eq_some_iff.1 h
   injection h3 with h3 h4; subst h3; subst h4
   simp only [frz, as_ (g := frz σ d') (fun t v S' _ hh hs => d8_ d t v S' hh d' (by omega)) h2, Option.map_some]
  | _ => simp [frz] at h <;> simp [frz, h]
theorem kr_ {σ : St} {d d' : Nat} {t : T} {p q : T × List Nat} (h : frz σ d t = some p) (k : frz σ d' t = some q) : p = q := by
 have h1 := d8_ d t p.1 p.2 h (max d d') (Nat.le_max_left _ _)
 have h2 := d8_ d' t q.1 q.2 k (max d d') (Nat.le_max_right _ _)
 rw [h1] at h2; injection h2
theorem de_ {σ : St} {d d' : Nat} : ∀ {ts : List T} {p q : List T × List Nat}, frzL (frz σ d) ts = some p → frzL (frz σ d') ts = some q → p = q
 | [], p, q, h, k => by simp [frzL] at h k; rw [← h, ← k]
 | t :: ts, p, q, h, k => by
  simp only [frzL] at h k
  obtain ⟨p0, h1, h2⟩ := Option.bind_eq_some_iff.1 h
  obtain ⟨p1, h3, h4⟩ := Option.map_eq_some_iff.1 h2
  obtain ⟨q0, k1, k2⟩ := Option.bind_eq_some_iff.1 k
  obtain ⟨q1, k3, k4⟩ := Option.map_eq_some_iff.1 k2
  have e1 := kr_ h1 k1
  have e2 := de_ h3 k3
  subst e1; subst e2; rw [← h4, ← k4]
theorem na_ {σ : St} {d d' : Nat} {t : T} {p q : T × List Nat} (h : own σ d t = some p) (k : own σ d' t = some q) : p = q := by
 have h1 := g7_ d t p.1 p.2 h (max d d') (Nat.le_max_left _ _)
 have h2 := g7_ d' t q.1 q.2 k (max d d') (Nat.le_max_right _ _)
 rw [h1] at h2; injection h2
theorem It.code_inj {I J : It} (h : I.code = J.code) : I = J := by
 cases I; cases J
 simp only [It.code, Code.seq.injEq, Code.region.injEq, Code.block.injEq, Code.loop.injEq, Code.cond.injEq, Code.exit.injEq, true_and, and_true] at h
 simp only [It.mk.injEq]
 simp only [h, and_self]
section
variable {P : Program} {vm : Nat → Md} {X : Ext}
theorem det : ∀ {f args σ r σ'}, EvCall P vm X f args σ r σ' → ∀ r2 σ2, EvCall P vm X f args σ r2 σ2 → r = r2 ∧ σ' = σ2 := by
 intro f args σ r σ' h
 refine EvCall.rec (P := P) (vm := vm) (X := X) (motive_1 := fun f args σ r σ' _ => ∀ r2 σ2, EvCall P vm X f args σ r2 σ2 → r = r2 ∧ σ' = σ2) (motive_2 := fun f args σ r σ' _ => ∀ r2 σ2, EvP P vm X f args σ r2 σ2 → r = r2 ∧ σ' = σ2)
  (motive_3 := fun ops k o fr fr' _ => ∀ fr2, EvO P vm X ops k o fr fr2 → fr' = fr2)
  (motive_4 := fun ops b l fr fr' _ => ∀ fr2, EvI P vm X ops b l fr fr2 → fr' = fr2) (motive_5 := fun c fr x fr' _ => ∀ x2 fr2, EvC P vm X c fr x2 fr2 → x = x2 ∧ fr' = fr2) (motive_6 := fun c n fr x fr' _ => ∀ n2 x2 fr2, EvR P vm X c n2 fr x2 fr2 → x = x2 ∧ fr' = fr2) (motive_7 := fun l I ps assign body s it it' _ => ∀ it2, EvY P vm X l I ps assign body s it it2 → it' = it2)
  ?_ ?_ ?_ ?_ ?_ ?_ ?_ ?_ ?_ ?_ ?_ ?_ ?_ ?_ ?_ ?_ ?_ ?_ ?_ ?_ ?_ ?_ ?_ ?_ ?_ ?_ ?_ h
 ·intro f fn c args σ x fr r h0 h1 h2 h3 h4 h5 _ h7 h8 ih r2 σ2 k
  cases k with
  | mk k0 k1 k2 k3 k4 k5 k6 k7 k8 =>
   rw [h1] at k1; injection k1 with k1; subst k1
   rw [h3] at k3; injection k3 with k3; subst k3
   obtain ⟨_, rfl⟩ := ih _ _ k6
   rw [h8] at k8; injection k8 with k8; exact ⟨k8, rfl⟩
  | ext k0 k1 => rw [h0] at k0; cases k0
 ·intro f g args σ r σ' h1 h2 r2 σ2 k
  cases k with
  | mk k0 => rw [h1] at k0; cases k0
  | ext k0 k1 =>
   rw [h1] at k0; injection k0 with k0; subst k0
   rw [h2] at k1; injection k1 with k1; injection k1 with a b; exact ⟨a, b⟩
 ·intro f args σ r σ' hv _ ih r2 σ2 k
  cases k with
  | raw _ k1 => exact ih _ _ k1
  | view k0 => rw [hv] at k0; cases k0
  | own k0 => rw [hv] at k0; cases k0
 ·intro D1 D2 f args σ args' S r σ2 r' S2 hv h1 _ h3 h4 h5 ih r3 σ3 k
  cases k with
  | raw k0 => rw [hv] at k0; cases k0
  | view k0 k1 k2 k3 k4 k5 =>
   have k1 := de_ h1 k1; injection k1 with a b; subst a; subst b
   obtain ⟨rfl, rfl⟩ := ih _ _ k2
   have k3 := kr_ h3 k3; injection k3 with a b; subst a; subst b
   exact ⟨rfl, rfl⟩
  | own k0 => rw [hv] at k0; cases k0
 ·intro D1 D2 f args σ args' S r σ2 v K hv h1 _ h3 h4 h5 ih r3 σ3 k
  cases k with
  | raw k0 => rw [hv] at k0; cases k0
  | view k0 => rw [hv] at k0; cases k0
  | own k0 k1 k2 k3 k4 k5 =>
   have k1 := de_ h1 k1; injection k1 with a b; subst a; subst b
   obtain ⟨rfl, rfl⟩ := ih _ _ k2
   have k3 := na_ h3 k3; injection k3 with a b; subst a; subst b
   exact ⟨rfl, rfl⟩
 ·intro ops kk o fr hw fr2 k
  cases k with
  | skip _ => rfl
  | val k0 => rw [hw] at k0; cases k0
  | nores k0 => rw [hw] at k0; cases k0
  | call k0 => rw [hw] at k0; cases k0
 ·intro ops kk o fr v σ hw ha fr2 k
  cases k with
  | skip k0 => rw [hw] at k0; cases k0
  | val _ k1 => rw [ha] at k1; injection k1 with k1; injection k1 with a b; subst a; subst b; rfl
  | nores _ k1 => rw [ha] at k1; injection k1 with k1; cases k1
  | call _ k1 => rw [ha] at k1; injection k1 with k1; cases k1
 ·intro ops kk o fr σ hw ha fr2 k
  cases k with
  | skip k0 => rw [hw] at k0; cases k0
  | val _ k1 => rw [ha] at k1; injection k1 with k1; cases k1
  | nores _ k1 => rw [ha] at k1; injection k1 with k1; injection k1 with a; subst a; rfl
  | call _ k1 => rw [ha] at k1; injection k1 with k1; cases k1
 ·intro ops kk o fr f args r σ hw ha _ ih fr2 k
  cases k with
  | skip k0 => rw [hw] at k0; cases k0
  | val _ k1 => rw [ha] at k1; injection k1 with k1; cases k1
  | nores _ k1 => rw [ha] at k1; injection k1 with k1; cases k1
  | call _ k1 k2 =>
   rw [ha] at k1; injection k1 with k1; injection k1 with a b; subst a; subst b
   obtain ⟨rfl, rfl⟩ := ih _ _ k2; rfl
 ·intro ops b fr fr2 k; cases k; rfl
 ·intro ops b i l o fr fr1 fr2 h1 _ _ ih1 ih2 fr3 k
  cases k with
  | cons k1 k2 k3 =>
   rw [h1] at k1; injection k1 with k1; subst k1
   obtain rfl := ih1 _ k2
   exact ih2 _ k3
 ·intro fr x2 fr2 k; cases k; exact ⟨rfl, rfl⟩
 ·intro id ops fr fr' _ ih x2 fr2 k
  cases k with
  | region k => exact ⟨rfl, ih _ k⟩
 ·intro id ops fr fr' _ ih x2 fr2 k
  cases k with
  | draw k => exact ⟨rfl, ih 0 _ (k 0)⟩
 ·intro a b fr fr1 x fr2 _ _ ih1 ih2 x2 fr3 k
  cases k with
  | seq k1 k2 =>
   obtain ⟨_, rfl⟩ := ih1 _ _ k1
   exact ih2 _ _ k2
  | seqX k1 hx =>
   obtain ⟨rfl, _⟩ := ih1 _ _ k1
   exact absurd rfl hx
 ·intro a b fr x fr1 _ hx ih x2 fr3 k
  cases k with
  | seq k1 k2 =>
   obtain ⟨rfl, _⟩ := ih _ _ k1
   exact absurd rfl hx
  | seqX k1 _ => exact ih _ _ k1
 ·intro c a b fr x fr' hc _ ih x2 fr2 k
  cases k with
  | condT _ k => exact ih _ _ k
  | condF k0 => rw [hc] at k0; injection k0 with k0; injection k0 with k0; cases k0
 ·intro c a b fr x fr' hc _ ih x2 fr2 k
  cases k with
  | condT k0 => rw [hc] at k0; injection k0 with k0; injection k0 with k0; cases k0
  | condF _ k => exact ih _ _ k
 ·intro id c fr x fr' _ ih x2 fr2 k
  cases k with
  | block k => obtain ⟨rfl, rfl⟩ := ih _ _ k; exact ⟨rfl, rfl⟩
 ·intro c n fr x fr' _ ih x2 fr2 k
  cases k with
  | loop k => exact ih _ _ _ k
 ·intro id fr x2 fr2 k; cases k; exact ⟨rfl, rfl⟩
 ·intro fr x2 fr2 k; cases k; exact ⟨rfl, rfl⟩
 ·intro g ps assign body fr f us fn I σ1 it0 it1 h1 h3 h4 h5 hres h6 h7 _ _ h10 ih1 ih2 x2 fr2 k
  cases k with
  | range k1 k3 k4 k5 kres k6 k7 k8 k9 k10 =>
   rw [h1] at k1; injection k1 with k1; injection k1 with e1 e2 e3; subst e1; subst e3
   rw [h3] at k3; injection k3 with k3; subst k3
   rw [h5] at k5; injection k5 with k5
   have := It.code_inj k5; subst this
   have a1 := ih2 0 _ (by rw [ih1 0 _ (k8 0)]; exact k9 0)
   exact ⟨rfl, by rw [← h10 0, ← k10 0, a1]⟩
 ·intro c n fr fr1 x fr2 _ _ ih1 ih2 n2 x2 fr3 k
  cases k with
  | go k1 k2 => obtain ⟨_, rfl⟩ := ih1 _ _ k1; exact ih2 _ _ _ k2
  | stop k1 hx => obtain ⟨rfl, _⟩ := ih1 _ _ k1; exact absurd rfl hx
 ·intro c n fr x fr1 _ hx ih n2 x2 fr3 k
  cases k with
  | go k1 k2 => obtain ⟨rfl, _⟩ := ih _ _ k1; exact absurd rfl hx
  | stop k1 _ => exact ih _ _ k1
 ·intro l I ps assign body s it it1 _ h2 ih it2 k
  cases k with
  | stop k1 k2 => exact ih _ k1
  | go k1 k2 => obtain rfl := ih _ k1; rw [h2] at k2; injection k2 with k2; injection k2 with k2; cases k2
 ·intro l I ps assign body s it it1 it2 it3 it4 it5 o ts b1 b2 _ h2 _ h4 h5 h6 _ _ _ h10 _ _ ih1 ih3 ih7 ih8 ih9 ih11 ih12 it6 k
  cases k with
  | stop k1 k2 => obtain rfl := ih1 _ k1; rw [h2] at k2; injection k2 with k2; injection k2 with k2; cases k2
  | go k1 k2 k3 k4 k5 k6 k7 k8 k9 k10 k11 k12 =>
   obtain rfl := ih1 _ k1
   obtain rfl := ih3 _ k3
   rw [h4] at k4; injection k4 with k4; subst k4
   rw [h5] at k5; injection k5 with k5; subst k5
   obtain ⟨_, rfl⟩ := ih7 _ _ k7
   obtain ⟨_, rfl⟩ := ih8 _ _ k8
   obtain rfl := ih9 _ k9
   obtain rfl := ih11 _ k11
   exact ih12 _ k12
theorem detP {f args σ r σ' r2 σ2} (h : EvP P vm X f args σ r σ') (k : EvP P vm X f args σ r2 σ2) : r = r2 ∧ σ' = σ2 := by
 cases h with
 | raw h0 h1 =>
  cases k with
  | raw _ k1 => exact det h1 _ _ k1
  | view k0 => rw [h0] at k0; cases k0
  | own k0 => rw [h0] at k0; cases k0
 | view h0 h1 h2 h3 h4 h5 =>
  cases k with
  | raw k0 => rw [h0] at k0; cases k0
  | view k0 k1 k2 k3 k4 k5 =>
   have k1 := de_ h1 k1; injection k1 with a b; subst a; subst b
   obtain ⟨rfl, rfl⟩ := det h2 _ _ k2
   have k3 := kr_ h3 k3; injection k3 with a b; subst a; subst b
   exact ⟨rfl, rfl⟩
  | own k0 => rw [h0] at k0; cases k0
 | own h0 h1 h2 h3 h4 h5 =>
  cases k with
  | raw k0 => rw [h0] at k0; cases k0
  | view k0 => rw [h0] at k0; cases k0
  | own k0 k1 k2 k3 k4 k5 =>
   have k1 := de_ h1 k1; injection k1 with a b; subst a; subst b
   obtain ⟨rfl, rfl⟩ := det h2 _ _ k2
   have k3 := na_ h3 k3; injection k3 with a b; subst a; subst b
   exact ⟨rfl, rfl⟩
end
noncomputable def run (P : Program) (vm : Nat → Md) (X : Ext) : ax_ := fun f args σ =>
 if h : ∃ p : T × St, EvP P vm X f args σ p.1 p.2 then some (Classical.choose h) else none
section
variable {P : Program} {vm : Nat → Md} {X : Ext}
theorem dk_ {f args σ r σ'} : run P vm X f args σ = some (r, σ') ↔ EvP P vm X f args σ r σ' := by
 unfold run
 constructor
 ·intro h
  split at h
  ·rename_i hx
   injection h with h
   have := Classical.choose_spec hx
   rw [h] at this; exact this
  ·cases h
 ·intro h
  have hx : ∃ p : T × St, EvP P vm X f args σ p.1 p.2 := ⟨(r, σ'), h⟩
  rw [dif_pos hx]
  have := detP (Classical.choose_spec hx) h
  congr 1
  exact Prod.ext this.1 this.2
theorem tf_ {ops : Array Oper} {k : Option Nat} {o : Oper} {fr fr' : Fr} (h : op1 P (run P vm X) ops k o fr = some fr') : EvO P vm X ops k o fr fr' := by
 unfold op1 at h
 split at h
 ·rename_i hw
  obtain ⟨r, hr, h1⟩ := Option.bind_eq_some_iff.1 h
  cases r with
  | val v σ => injection h1 with h1; subst h1; exact .val hw hr
  | skip σ => injection h1 with h1; subst h1; exact .nores hw hr
  | call f args =>
   obtain ⟨⟨r, σ⟩, h2, h3⟩ := Option.bind_eq_some_iff.1 h1
   injection h3 with h3; subst h3
   exact .call hw hr (dk_.1 h2)
 ·rename_i hw
  injection h with h; subst h
  exact .skip (by simpa using hw)
theorem fj_ {ops : Array Oper} {b : Option Nat} : ∀ {l : List Nat} {fr fr' : Fr}, idxL P (run P vm X) ops b l fr = some fr' → EvI P vm X ops b l fr fr'
 | [], fr, fr', h => by injection h with h; subst h; exact .nil
 | i :: l, fr, fr', h => by
  simp only [idxL] at h
  split at h
  ·cases h
  ·rename_i o e
   obtain ⟨fr1, h1, h2⟩ := Option.bind_eq_some_iff.1 h
   exact .cons e (tf_ h1) (fj_ h2)
theorem mu_ (O : ax_) (ops : Array Oper) : ∀ (l : List Oper) (k : Nat), (∀ j, j < l.length → l[j]? = ops[k + j]?) → ∀ fr, idxL P O ops none (List.range' k l.length) fr = opsL P O ops l fr
 | [], k, _, fr => rfl
 | o :: l, k, h, fr => by
  have h0 : ops[k]? = some o := by simpa using (h 0 (by simp)).symm
  simp only [List.length_cons, List.range'_succ, idxL, h0, opsL, Option.map_none]
  congr 1
  funext fr'
  exact mu_ O ops l (k + 1) (fun j hj => by have := h (j + 1) (by simpa using hj); simpa [Nat.add_assoc, Nat.add_comm 1 j] using this) fr'
theorem q9_ {ops : Array Oper} {fr fr' : Fr} (h : opsL P (run P vm X) ops ops.toList fr = some fr') : EvI P vm X ops none (List.range ops.size) fr fr' := by
 refine fj_ ?_
 rw [List.range_eq_range', ← Array.length_toList, mu_ (run P vm X) ops ops.toList 0 (by simp)]
 exact h
theorem nm_ {id : Nat} {ops : Array Oper} {draw : Bool} {fr fr' : Fr} (h : io_ P (run P vm X) ops draw fr = some fr') : EvC P vm X (.region id ops draw) fr .normal fr' := by
 unfold io_ at h
 cases draw with
 | false => simp only [Bool.false_eq_true, if_false] at h; exact .region (q9_ h)
 | true =>
  simp only [if_true] at h
  unfold nr_ at h
  split at h
  ·rename_i hall
   refine .draw fun t => fj_ ?_
   rw [hall t]; exact h
  ·cases h
theorem up_ {l : Nat} {I : It} {ps : Array Nat} {assign body : Code} {s : Nat → T} {A : Fr → Option (aA_ × Fr)} (hA : ∀ fr fr', A fr = some (.normal, fr') → ∃ b1, EvC P vm X assign fr .normal b1 ∧ EvC P vm X body b1 .normal fr') {it it1 : Fr} (h : iP_ (oq_ P (run P vm X) l I ps A s) it = some (.ret, it1)) : EvY P vm X l I ps assign body s it it1 := by
 obtain ⟨n, hn⟩ := bK_.1 h
 clear h
 induction n generalizing it with
 | zero => simp [fi_] at hn
 | succ n ih =>
  simp only [fi_] at hn
  obtain ⟨⟨y, fr1⟩, h1, h2⟩ := Option.bind_eq_some_iff.1 hn
  unfold oq_ at h1
  obtain ⟨jt1, a1, a2⟩ := Option.bind_eq_some_iff.1 h1
  obtain ⟨v, b1, b2⟩ := Option.bind_eq_some_iff.1 a2
  split at b2
  ·injection b2 with b2; injection b2 with e1 e2; subst e1; subst e2
   injection h2 with h2; injection h2 with _ h2; subst h2
   exact .stop (fj_ a1) b1
  ·obtain ⟨jt2, c1, c2⟩ := Option.bind_eq_some_iff.1 b2
   obtain ⟨o, d1, d2⟩ := Option.bind_eq_some_iff.1 c2
   obtain ⟨ts, e1, e2⟩ := Option.bind_eq_some_iff.1 d2
   split at e2
   ·rename_i hlen
    obtain ⟨⟨z, bb⟩, f1, f2⟩ := Option.bind_eq_some_iff.1 e2
    cases z with
    | normal =>
     obtain ⟨jt3, g1, g2⟩ := Option.bind_eq_some_iff.1 f2
     obtain ⟨v2, i1, i2⟩ := Option.bind_eq_some_iff.1 g2
     split at i2
     ·obtain ⟨jt4, j1, j2⟩ := Option.map_eq_some_iff.1 i2
      injection j2 with e3 e4; subst e3; subst e4
      obtain ⟨b1', q1, q2⟩ := hA _ _ f1
      exact .go (fj_ a1) b1 (fj_ c1) d1 e1 hlen q1 q2 (fj_ g1) i1 (fj_ j1) (ih h2)
     ·cases i2
    | exit i => cases f2
    | ret => cases f2
   ·cases e2
  ·cases b2
theorem codeL_ev : ∀ {c : Code} {fr : Fr} {x : aA_} {fr' : Fr}, dx_ P (run P vm X) c fr = some (x, fr') → EvC P vm X c fr x fr' := by
 intro c
 induction c with
 | skip => intro fr x fr' h; injection h with h; injection h with a b; subst a; subst b; exact .skip
 | region id ops draw =>
  intro fr x fr' h
  obtain ⟨fr1, h1, h2⟩ := Option.map_eq_some_iff.1 h
  injection h2 with a b; subst a; subst b
  exact nm_ h1
 | seq a b iha ihb =>
  intro fr x fr' h
  obtain ⟨⟨y, fr1⟩, h1, h2⟩ := Option.bind_eq_some_iff.1 h
  cases y with
  | normal => exact .seq (iha h1) (ihb h2)
  | exit i => injection h2 with h2; injection h2 with a b; subst a; subst b; exact .seqX (iha h1) (by simp)
  | ret => injection h2 with h2; injection h2 with a b; subst a; subst b; exact .seqX (iha h1) (by simp)
 | cond c a b iha ihb =>
  intro fr x fr' h
  obtain ⟨v, h1, h2⟩ := Option.bind_eq_some_iff.1 h
  split at h2
  ·exact .condT h1 (iha h2)
  ·exact .condF h1 (ihb h2)
  ·cases h2
 | block id c ih =>
  intro fr x fr' h
  obtain ⟨⟨y, fr1⟩, h1, h2⟩ := Option.map_eq_some_iff.1 h
  injection h2 with a b; subst a; subst b
  exact EvC.block (id := id) (ih h1)
 | loop c ih =>
  intro fr x fr' h
  obtain ⟨n, hn⟩ := bK_.1 h
  refine .loop (n := n) ?_
  clear h
  induction n generalizing fr with
  | zero => simp [fi_] at hn
  | succ n ih2 =>
   simp only [fi_] at hn
   obtain ⟨⟨y, fr1⟩, h1, h2⟩ := Option.bind_eq_some_iff.1 hn
   cases y with
   | normal => exact .go (ih h1) (ih2 h2)
   | exit i => injection h2 with h2; injection h2 with a b; subst a; subst b; exact .stop (ih h1) (by simp)
   | ret => injection h2 with h2; injection h2 with a b; subst a; subst b; exact .stop (ih h1) (by simp)
 | exit id => intro fr x fr' h; injection h with h; injection h with a b; subst a; subst b; exact .exit
 | ret => intro fr x fr' h; injection h with h; injection h with a b; subst a; subst b; exact .ret
 | rangeFunc g ps a b iha ihb =>
  intro fr x fr' h
  simp only [dx_] at h
  unfold oC_ at h
  split at h
  ·rename_i f us he
   split at h
   ·rename_i fn hf
    split at h
    ·rename_i I hI
     split at h
     ·rename_i hc
      obtain ⟨⟨c1, c2, c3, c4⟩, c5⟩ := hc
      have hs := Classical.choose_spec c5
      injection h with h; injection h with e1 e2; subst e1; subst e2
      obtain ⟨it1, q1⟩ := Classical.axiomOfChoice hs
      obtain ⟨it0, r1⟩ := Classical.axiomOfChoice fun l => Option.bind_eq_some_iff.1 (q1 l).1
      obtain ⟨cd, hb, hcd⟩ := Option.bind_eq_some_iff.1 hI
      have := oM_ hcd; subst this
      refine .range (it0 := it0) (it1 := it1) he hf c1 hb c2 c3 c4 (fun l => fj_ (r1 l).1) (fun l => up_ (fun fr fr' hA => ?_) (r1 l).2) (fun l => (q1 l).2)
      obtain ⟨⟨y, fr1⟩, h1, h2⟩ := Option.bind_eq_some_iff.1 hA
      cases y with
      | normal => exact ⟨fr1, iha h1, ihb h2⟩
      | exit i => injection h2 with h2; injection h2 with a b; cases a
      | ret => injection h2 with h2; injection h2 with a b; cases a
     ·cases h
    ·cases h
   ·cases h
  ·cases h
 | _ => intro fr x fr' h; simp [dx_] at h
theorem dM_ (σ : St) : σ.mark [] = σ := by
 cases σ
 simp only [St.mark, St.mk.injEq, true_and]
 funext i
 simp
theorem qh_ {D1 D2 f : Nat} {fn : Func} {c : Code} {args args' : List T} {S S2 : List Nat} {σ : St} {x : aA_} {fr : Fr} {r r' : T} (hv : vm f = .view) (hX : X f = none) (h1 : P.funcs[f]? = some fn) (h2 : (fn.name == "runtime.NumGoroutine") = false)
  (h3 : fn.body = some c) (h4 : dstsOk fn.ntmps c = true) (h5 : args'.length ≤ fn.ntmps) (hargs : frzL (frz σ D1) args = some (args', S)) (hc : dx_ P (run P vm X) c ⟨enterS args', σ.mark S⟩ = some (x, fr)) (hx : x = .normal ∨ x = .ret)
  (hr : resA P fn fr = some r) (hf : frz fr.σ D2 r = some (r', S2)) (hp : pureT r' = true) (hold : ∀ i, i < σ.next → fr.σ.blk i = (σ.mark S).blk i) :
  run P vm X f args σ = some (r', if leafT r' = true then σ else (σ.mark S).mark (S2.filter fun i => decide (i < σ.next))) :=
 dk_.2 (.view hv hargs (.mk hX h1 h2 h3 h4 h5 (codeL_ev hc) hx hr) hf hp hold)
theorem sb_ {D1 D2 f : Nat} {fn : Func} {c : Code} {args args' : List T} {S K : List Nat} {σ : St} {x : aA_} {fr : Fr} {r v : T} (hv : vm f = .own) (hX : X f = none) (h1 : P.funcs[f]? = some fn) (h2 : (fn.name == "runtime.NumGoroutine") = false)
  (h3 : fn.body = some c) (h4 : dstsOk fn.ntmps c = true) (h5 : args'.length ≤ fn.ntmps) (hargs : frzL (frz σ D1) args = some (args', S)) (hc : dx_ P (run P vm X) c ⟨enterS args', σ.mark S⟩ = some (x, fr)) (hx : x = .normal ∨ x = .ret)
  (hr : resA P fn fr = some r) (hf : own fr.σ D2 r = some (v, K)) (hK : ∀ b ∈ K, σ.next ≤ b) (hold : ∀ i, i < σ.next → fr.σ.blk i = (σ.mark S).blk i) :
  run P vm X f args σ = some (r, σ.keep fr.σ K) :=
 dk_.2 (.own hv hargs (.mk hX h1 h2 h3 h4 h5 (codeL_ev hc) hx hr) hf hK hold)
theorem lK_ {f : Nat} {fn : Func} {c : Code} {args : List T} {σ : St} {x : aA_} {fr : Fr} {r : T} (hv : vm f = .raw) (hX : X f = none) (h1 : P.funcs[f]? = some fn) (h2 : (fn.name == "runtime.NumGoroutine") = false)
  (h3 : fn.body = some c) (h4 : dstsOk fn.ntmps c = true) (h5 : args.length ≤ fn.ntmps) (hc : dx_ P (run P vm X) c ⟨enterS args, σ⟩ = some (x, fr)) (hx : x = .normal ∨ x = .ret)
  (hr : resA P fn fr = some r) : run P vm X f args σ = some (r, fr.σ) :=
 dk_.2 (.raw hv (.mk hX h1 h2 h3 h4 h5 (codeL_ev hc) hx hr))
end
#print axioms sound
end Go.Am
end
section
set_option linter.unusedVariables false
set_option linter.unusedSimpArgs false
namespace Go.Am
open Classical
section
variable {P : Program}
theorem fk_ {s s' : Nat → T} : ∀ {xs : List Operand}, (∀ x ∈ xs, evalO s x = evalO s' x) → bT_ s xs = bT_ s' xs
 | [], _ => rfl
 | x :: xs, h => by
  simp only [bT_]
  rw [h x (by simp), fk_ fun y hy => h y (by simp [hy])]
theorem f9_ {s s' : Nat → T} : ∀ {xs : List (Nat × Operand)}, (∀ x ∈ xs, evalO s x.2 = evalO s' x.2) → dr_ s xs = dr_ s' xs
 | [], _ => rfl
 | (i, x) :: xs, h => by
  simp only [dr_]
  rw [h (i, x) (by simp), f9_ fun y hy => h y (by simp [hy])]
theorem o1_ {k : Option Nat} {s s' : Nat → T} {σ : St} {o : Oper} (h : ∀ x ∈ o.op.operands, evalO s x = evalO s' x) : aOp P k ⟨s, σ⟩ o = aOp P k ⟨s', σ⟩ o := by
 obtain ⟨dst, op, type, pos, after, guard⟩ := o
 cases op <;> simp only [Op.operands] at h <;> simp only [aOp]
 case build t ps => rw [f9_ (s := s) (s' := s') fun x hx => h x.2 (by simp only [List.mem_toArray, List.mem_map]; exact ⟨x, hx, rfl⟩)]
 case buildSlice t n ps => rw [f9_ (s := s) (s' := s') fun x hx => h x.2 (by simp only [List.mem_toArray, List.mem_map]; exact ⟨x, hx, rfl⟩)]
 case makeFunc fn first captured =>
  cases fn <;> simp only
  rw [fk_ (s := s) (s' := s') (xs := first.toList) fun x hx => h x (by simp at hx; simp [hx]), fk_ (s := s) (s' := s') (xs := captured.toList) fun x hx => h x (by simp at hx; simp [hx])]
 case call c =>
  rw [fk_ (s := s) (s' := s') (xs := c.args.toList) fun x hx => h x (by simp at hx; simp [Call.operands, hx])]
  cases hc : c.callee with
  | value f => have hf : evalO s f = evalO s' f := h f (by simp [Call.operands, hc]); simp only [hf]
  | invoke r m => rfl
  | builtin b => cases b <;> rfl
 case makeMap t r => cases r <;> rfl
 case lookup t x i c => cases c <;> simp_all
 case slice t x lo hi mx => cases lo <;> cases hi <;> cases mx <;> simp_all [d1_]
 all_goals (first | rfl | (simp_all; done))
theorem kh_ {ops : Array Oper} {o : Oper} {s s' : Nat → T} (h : ∀ g w d, o.guard = some (g, w) → (ops[g]?).bind (·.dst) = some d → s d = s' d) : wantedA ops o s = wantedA ops o s' := by
 unfold wantedA
 cases hg : o.guard with
 | none => rfl
 | some p =>
  obtain ⟨g, w⟩ := p
  simp only
  cases hd : (ops[g]?).bind (·.dst) with
  | none => rfl
  | some d => simp only [h g w d hg hd]
def ef_ (P : Program) (O : ax_) (ops : Array Oper) (b : Nat) (i : Nat) (s : Nat → T) (σ : St) : Option (T × St) :=
 match ops[i]? with
 | none => none
 | some o =>
  if wantedA ops o s then
   (aOp P (some (b + i)) ⟨s, σ⟩ o).bind fun
    | .val v σ => some (v, σ)
    | .skip σ => some (.tup [], σ)
    | .call f args => O f args σ
  else some (.tup [], σ)
theorem mn_ {O : ax_} {ops : Array Oper} {b i : Nat} {o : Oper} {s : Nat → T} {σ : St} (h : ops[i]? = some o) : op1 P O ops ((some b).map (· + i)) o ⟨s, σ⟩ = (ef_ P O ops b i s σ).map fun p => (Fr.put ⟨s, σ⟩ o.dst p.1 p.2) := by
 unfold op1 ef_
 rw [h]
 simp only [Option.map_some]
 split
 ·cases aOp P (some (b + i)) ⟨s, σ⟩ o with
  | none => rfl
  | some r =>
   simp only [Option.bind_some]
   cases r with
   | val v σ' => rfl
   | skip σ' => rfl
   | call f args =>
    simp only
    cases O f args σ <;> rfl
 ·rfl
theorem lD_ {O : ax_} {ops : Array Oper} {b i : Nat} {o : Oper} {s s' : Nat → T} {σ : St} (h : ops[i]? = some o) (hs : ∀ d ∈ o.looksAt ops, s d = s' d) : ef_ P O ops b i s σ = ef_ P O ops b i s' σ := by
 unfold ef_
 rw [h]
 simp only
 have h1 : wantedA ops o s = wantedA ops o s' := kh_ fun g w d hg hd => hs d (by simp [Oper.looksAt, hg, hd])
 have h2 : aOp P (some (b + i)) ⟨s, σ⟩ o = aOp P (some (b + i)) ⟨s', σ⟩ o := o1_ fun x hx => by
  cases x with
  | tmp t => simp only [evalO]; rw [hs t (by simp only [Oper.looksAt, List.mem_append]; exact .inl (List.mem_filterMap.2 ⟨.tmp t, by simpa using hx, rfl⟩))]
  | _ => rfl
 rw [h1, h2]
def ancM (ops : Array Oper) : List Nat :=
 ops.toList.foldl (fun acc o => acc ++ [o.after.toList.foldl (fun m e => if Region.binds .any e then (m ||| 2 ^ e.on) ||| acc.getD e.on 0 else m) 0]) []
def hq_ (m j : Nat) : Bool := Nat.beq (Nat.land (Nat.shiftRight m j) 1) 1
theorem kx_ (m j : Nat) : hq_ m j = m.testBit j := by
 have e : Nat.land (Nat.shiftRight m j) 1 = (m >>> j) &&& 1 := rfl
 rw [hq_, e, Nat.testBit, Nat.and_comm, Bool.eq_iff_iff]
 have h : 1 &&& (m >>> j) = (m >>> j) % 2 := by rw [Nat.and_comm, Nat.and_one_is_mod]
 rw [h]
 have := Nat.mod_two_eq_zero_or_one (m >>> j)
 constructor
 ·intro h; have := Nat.eq_of_beq_eq_true h; simp [this]
 ·intro h; rcases this with h1 | h1
  ·rw [h1] at h; simp at h
  ·rw [h1]; rfl
def ancs (ops : Array Oper) : List (List Nat) := (ancM ops).map fun m => (List.range ops.size).filter fun j => hq_ m j
theorem d9_ {ops : Array Oper} {i j : Nat} : j ∈ (ancs ops).getD i [] ↔ j < ops.size ∧ hq_ ((ancM ops).getD i 0) j = true := by
 unfold ancs
 rw [List.getD_eq_getElem?_getD, List.getD_eq_getElem?_getD, List.getElem?_map]
 cases (ancM ops)[i]? with
 | none => simp [kx_]
 | some m => simp
def lF_ (A : List (List Nat)) (ch : List Nat) (i : Nat) (c : Nat → Bool) : Prop :=
 (∀ j ∈ ch, j ∈ A.getD i [] → c j = true) ∧ (∀ j ∈ ch, i ∈ A.getD j [] → c j = false) ∧ c i = false ∧ ∀ j ∈ ch, ∀ k ∈ ch, k ∈ A.getD j [] → c j = true → c k = true
def fW_ (ops : Array Oper) : Bool :=
 let A := ancM ops
 (List.range ops.size).all fun i =>
  match ops[i]? with
  | none => false
  | some o =>
   (o.after.all fun e => !Region.binds .any e || decide (e.on < i)) && Nat.blt (A.getD i 0) (2 ^ i) &&
   (List.range ops.size).all fun j =>
    match ops[j]? with
    | none => false
    | some o' =>
     match o'.dst with
     | none => true
     | some d => i == j || ((o.dst != some d) && (!(o.looksAt ops).contains d || hq_ (A.getD i 0) j || hq_ (A.getD j 0) i))
def Shut (ops : Array Oper) (L : Nat → Bool) : Prop := ∀ i o, ops[i]? = some o → L i = true → ∀ e ∈ o.after, Region.binds .any e = true → L e.on = true
theorem ji_ {L : Nat → Bool} {acc : List Nat} (hacc : ∀ i, L i = true → ∀ j, (acc.getD i 0).testBit j = true → L j = true) : ∀ (es : List Edge) (m : Nat), (∀ j, m.testBit j = true → L j = true) → (∀ e ∈ es, Region.binds .any e = true → L e.on = true) →
  ∀ j, (es.foldl (fun m e => if Region.binds .any e then (m ||| 2 ^ e.on) ||| acc.getD e.on 0 else m) m).testBit j = true → L j = true
 | [], m, hl, _, j, hj => hl j hj
 | e :: es, m, hl, he, j, hj => by
  simp only [List.foldl_cons] at hj
  refine ji_ hacc es _ ?_ (fun e' h => he e' (by simp [h])) j hj
  intro j hj
  split at hj
  ·rename_i hb
   have h1 := he e (by simp) hb
   rw [Nat.testBit_or, Nat.testBit_or, Bool.or_eq_true, Bool.or_eq_true, Nat.testBit_two_pow] at hj
   rcases hj with (hj | hj) | hj
   ·exact hl j hj
   ·have : e.on = j := by simpa using hj
    subst this; exact h1
   ·exact hacc _ h1 j hj
  ·exact hl j hj
theorem kI_ {ops : Array Oper} {L : Nat → Bool} (hL : Shut ops L) : ∀ (l pre : List Oper) (acc : List Nat), ops.toList = pre ++ l → acc.length = pre.length →
  (∀ i o, pre[i]? = some o → (∀ e ∈ o.after, Region.binds .any e = true → L e.on = true) → ∀ j, (acc.getD i 0).testBit j = true → L j = true) →
  ∀ i o, ops[i]? = some o → (∀ e ∈ o.after, Region.binds .any e = true → L e.on = true) →
   ∀ j, ((l.foldl (fun acc o => acc ++ [o.after.toList.foldl (fun m e => if Region.binds .any e then (m ||| 2 ^ e.on) ||| acc.getD e.on 0 else m) 0]) acc).getD i 0).testBit j = true → L j = true
 | [], pre, acc, he, hn, h, i, o, ho, hh, j, hj => by
  refine h i o ?_ hh j hj
  rw [List.append_nil] at he
  rw [← he]; simpa using ho
 | x :: l, pre, acc, he, hn, h, i, o, ho, hh, j, hj => by
  simp only [List.foldl_cons] at hj
  refine kI_ hL l (pre ++ [x]) _ (by simp [he]) (by simp [hn]) ?_ i o ho hh j hj
  intro i o hi hh j hj
  have hacc : ∀ i, L i = true → ∀ j, (acc.getD i 0).testBit j = true → L j = true := fun i hi j hj => by
   cases hp : pre[i]? with
   | none =>
    have : acc.length ≤ i := by rw [hn]; exact List.getElem?_eq_none_iff.1 hp
    rw [List.getD_eq_getElem?_getD, List.getElem?_eq_none this] at hj
    simp at hj
   | some o =>
    refine h i o hp (hL i o ?_ hi) j hj
    have : ops.toList[i]? = some o := by rw [he, List.getElem?_append_left (by exact (List.getElem?_eq_some_iff.1 hp).1)]; exact hp
    simpa using this
  by_cases hlt : i < pre.length
  ·rw [List.getElem?_append_left hlt] at hi
   rw [List.getD_eq_getElem?_getD, List.getElem?_append_left (by omega), ← List.getD_eq_getElem?_getD] at hj
   exact h i o hi hh j hj
  ·have : i = pre.length := by
    have := (List.getElem?_eq_some_iff.1 hi).1
    simp at this; omega
   subst this
   simp at hi; subst hi
   rw [← hn, List.getD_eq_getElem?_getD] at hj
   simp only [List.getElem?_concat_length, Option.getD_some] at hj
   exact ji_ hacc _ 0 (by simp) (fun e he => hh e (by simpa using he)) j hj
theorem iR_ {ops : Array Oper} {L : Nat → Bool} (hL : Shut ops L) {i : Nat} {o : Oper} (ho : ops[i]? = some o) (h : ∀ e ∈ o.after, Region.binds .any e = true → L e.on = true) : ∀ j ∈ (ancs ops).getD i [], L j = true := fun j hj =>
 kI_ hL ops.toList [] [] rfl rfl (by simp) i o ho h j (by have := (d9_.1 hj).2; rwa [kx_] at this)
def sl (ops : Array Oper) (vals : Nat → T) (s : Nat → T) (L : Nat → Bool) (t : Nat) : T :=
 match (List.range ops.size).find? (fun j => L j && decide ((ops[j]?).bind (·.dst) = some t)) with
 | some j => vals j
 | none => s t
structure fh_ (ops : Array Oper) : Prop where
 back : ∀ (i : Nat) (o : Oper), ops[i]? = some o → ∀ e ∈ o.after, Region.binds .any e = true → e.on < i
 ancB : ∀ i, i < ops.size → ∀ j ∈ (ancs ops).getD i [], j < i
 uniq : ∀ (i j : Nat) (o o' : Oper) (d : Nat), ops[i]? = some o → ops[j]? = some o' → o.dst = some d → o'.dst = some d → i = j
 look : ∀ (i j : Nat) (o o' : Oper) (d : Nat), ops[i]? = some o → ops[j]? = some o' → o'.dst = some d → d ∈ o.looksAt ops → i ≠ j → j ∈ (ancs ops).getD i [] ∨ i ∈ (ancs ops).getD j []
theorem eO_ {ops : Array Oper} (h : fW_ ops = true) : fh_ ops := by
 unfold fW_ at h
 simp only [List.all_eq_true, List.mem_range] at h
 have h1 : ∀ (i : Nat) (o : Oper), ops[i]? = some o → (∀ e ∈ o.after, Region.binds .any e = true → e.on < i) ∧ (∀ j ∈ (ancs ops).getD i [], j < i) ∧ ∀ (j : Nat) (o' : Oper) (d : Nat), ops[j]? = some o' → o'.dst = some d → i = j ∨ (o.dst ≠ some d ∧ (d ∈ o.looksAt ops → hq_ ((ancM ops).getD i 0) j = true ∨ hq_ ((ancM ops).getD j 0) i = true)) := fun i o hi => by
  have hlt := (Array.getElem?_eq_some_iff.1 hi).1
  have := h i hlt
  simp only [hi, Bool.and_eq_true, Array.all_eq_true_iff_forall_mem, decide_eq_true_eq, List.all_eq_true, List.mem_range] at this
  refine ⟨fun e he hb => by have h0 := this.1.1 e he; rw [hb] at h0; simpa using h0, fun j hj => ?_, fun j o' d hj hd => ?_⟩
  ·have h3 := this.1.2
   have h3 : (ancM ops).getD i 0 < 2 ^ i := Nat.le_of_ble_eq_true h3
   have h4 := (d9_.1 hj).2
   rw [kx_] at h4
   refine Nat.lt_of_not_le fun hle => ?_
   rw [Nat.testBit_lt_two_pow (Nat.lt_of_lt_of_le h3 (Nat.pow_le_pow_right (by omega) hle))] at h4; cases h4
  have h2 := this.2 j (Array.getElem?_eq_some_iff.1 hj).1
  simp only [hj, hd, Bool.or_eq_true, beq_iff_eq, Bool.and_eq_true, bne_iff_ne, ne_eq, Bool.not_eq_true', List.contains_eq_mem, decide_eq_true_eq, decide_eq_false_iff_not] at h2
  rcases h2 with h2 | ⟨h2, h3⟩
  ·exact .inl h2
  ·refine .inr ⟨h2, fun hm => ?_⟩
   rcases h3 with (h3 | h3) | h3
   ·exact absurd hm h3
   ·exact .inl h3
   ·exact .inr h3
 refine ⟨fun i o hi => (h1 i o hi).1, fun i hi => ?_, fun i j o o' d hi hj hd hd' => ?_, fun i j o o' d hi hj hd hm hne => ?_⟩
 ·exact (h1 i ops[i] (by simp [hi])).2.1
 ·rcases (h1 i o hi).2.2 j o' d hj hd' with h | ⟨h, _⟩
  ·exact h
  ·exact absurd hd h
 ·rcases (h1 i o hi).2.2 j o' d hj hd with h | ⟨_, h⟩
  ·exact absurd h hne
  ·rcases h hm with h | h
   ·exact .inl (d9_.2 ⟨(Array.getElem?_eq_some_iff.1 hj).1, h⟩)
   ·exact .inr (d9_.2 ⟨(Array.getElem?_eq_some_iff.1 hi).1, h⟩)
theorem lY_ {ops : Array Oper} (hf : fh_ ops) {vals s L} {j : Nat} {o : Oper} {t : Nat} (hj : ops[j]? = some o) (hd : o.dst = some t) (hL : L j = true) : sl ops vals s L t = vals j := by
 unfold sl
 split
 ·rename_i k hk
  have h1 := List.find?_some hk
  simp only [Bool.and_eq_true, decide_eq_true_eq] at h1
  cases hk2 : ops[k]? with
  | none => rw [hk2] at h1; simp at h1
  | some o' =>
   rw [hk2] at h1
   rw [hf.uniq k j o' o t hk2 hj (by simpa using h1.2) hd]
 ·rename_i hk
  have h1 := List.find?_eq_none.1 hk j (List.mem_range.2 (Array.getElem?_eq_some_iff.1 hj).1)
  simp [hL, hj, hd] at h1
theorem f2_ {ops : Array Oper} {vals s L} {t : Nat} (h : ∀ (j : Nat) (o : Oper), ops[j]? = some o → o.dst = some t → L j = false) : sl ops vals s L t = s t := by
 unfold sl
 split
 ·rename_i k hk
  have h1 := List.find?_some hk
  simp only [Bool.and_eq_true, decide_eq_true_eq] at h1
  cases hk2 : ops[k]? with
  | none => rw [hk2] at h1; simp at h1
  | some o' =>
   rw [hk2] at h1
   have := h k o' hk2 (by simpa using h1.2)
   rw [this] at h1; simp at h1
 ·rfl
theorem mr_ {ops : Array Oper} (hf : fh_ ops) {vals s L} {i : Nat} {o : Oper} (hi : ops[i]? = some o) (hL : L i = false) (σ σ' : St) : Fr.put ⟨sl ops vals s L, σ⟩ o.dst (vals i) σ' = ⟨sl ops vals s (fun j => L j || decide (j = i)), σ'⟩ := by
 cases hd : o.dst with
 | none =>
  simp only [Fr.put, Fr.mk.injEq, and_true]
  funext t
  unfold sl
  have : (fun j => L j && decide ((ops[j]?).bind (·.dst) = some t)) = (fun j => (L j || decide (j = i)) && decide ((ops[j]?).bind (·.dst) = some t)) := by
   funext j
   by_cases hj : j = i
   ·subst hj; simp [hi, hd]
   ·simp [hj]
  rw [this]
 | some d =>
  simp only [Fr.put, Fr.mk.injEq, and_true]
  funext t
  by_cases ht : t = d
  ·subst ht
   rw [if_pos rfl, lY_ hf hi hd (by simp)]
  ·rw [if_neg ht]
   unfold sl
   have : (fun j => L j && decide ((ops[j]?).bind (·.dst) = some t)) = (fun j => (L j || decide (j = i)) && decide ((ops[j]?).bind (·.dst) = some t)) := by
    funext j
    by_cases hj : j = i
    ·subst hj; simp [hi, hd, Ne.symm ht]
    ·simp [hj]
   rw [this]
theorem ly_ {α : Type} {p q : α → Bool} : ∀ {l : List α}, (∀ x ∈ l, q x = true → p x = true) → (∃ x ∈ l, p x = true ∧ q x = false) → l.countP q < l.countP p
 | [], _, ⟨x, hx, _⟩ => by simp at hx
 | a :: l, h, ⟨x, hx, hp, hq⟩ => by
  have hle : l.countP q ≤ l.countP p := List.countP_mono_left fun y hy hyq => h y (by simp [hy]) hyq
  simp only [List.countP_cons]
  rcases List.mem_cons.1 hx with rfl | hx
  ·rw [hp, hq]; simp; omega
  ·have := ly_ (l := l) (fun y hy => h y (by simp [hy])) ⟨x, hx, hp, hq⟩
   have h1 := h a (by simp)
   cases hqa : q a <;> cases hpa : p a <;> simp_all <;> omega
section
variable {O : ax_} {ops : Array Oper} {ch : List Nat} {vals : Nat → T} {Sg : (Nat → Bool) → St} {s : Nat → T} {b : Nat}
theorem rU_ (hf : fh_ ops)
  (hdyn : ∀ i, i < ops.size → ∀ c, lF_ (ancs ops) ch i c → ef_ P O ops b i (sl ops vals s (fun j => decide (j < i))) (Sg c) = some (vals i, Sg (fun j => c j || decide (j = i))))
  (hSg : ∀ c c', (∀ j ∈ ch, c j = c' j) → Sg c = Sg c') (hch : ∀ j ∈ ch, j < ops.size) :
  ∀ (fuel t : Nat) (listed : Array Bool), listed.size = ops.size → Shut ops (fun j => listed.getD j false) → (List.range ops.size).countP (fun j => !listed.getD j true) ≤ fuel →
   idxL P O ops (some b) (Region.linearise.go .any ops fuel t listed []) ⟨sl ops vals s (fun j => listed.getD j false), Sg (fun j => listed.getD j false)⟩ = some ⟨sl ops vals s (fun j => decide (j < ops.size)), Sg (fun j => decide (j < ops.size))⟩ := by
 have hall : ∀ listed : Array Bool, listed.size = ops.size → (∀ j, j < ops.size → listed.getD j true = true) → (⟨sl ops vals s (fun j => listed.getD j false), Sg (fun j => listed.getD j false)⟩ : Fr) = ⟨sl ops vals s (fun j => decide (j < ops.size)), Sg (fun j => decide (j < ops.size))⟩ := fun listed hn h => by
  have : (fun j => listed.getD j false) = (fun j => decide (j < ops.size)) := by
   funext j
   by_cases hj : j < ops.size
   ·have := h j hj
    simp [hn, hj] at this ⊢
    exact this
   ·simp [hn, hj]
  rw [this]
 intro fuel
 induction fuel with
 | zero =>
  intro t listed hn hs hc
  simp only [Region.linearise.go, List.reverse_nil, idxL]
  rw [hall listed hn]
  intro j hj
  have h0 : (List.range ops.size).countP (fun j => !listed.getD j true) = 0 := by omega
  have := List.countP_eq_zero.1 h0 j (List.mem_range.2 hj)
  simpa using this
 | succ fuel ih =>
  intro t listed hn hs hc
  simp only [Region.linearise.go]
  change idxL P O ops (some b) (match (Region.ready .any ops listed)[t % (Region.ready .any ops listed).length]? with
   | some i => Region.linearise.go .any ops fuel (t / (Region.ready .any ops listed).length) (listed.setIfInBounds i true) [i]
   | none => [].reverse) _ = _
  cases hi : (Region.ready .any ops listed)[t % (Region.ready .any ops listed).length]? with
  | none =>
   have hnil : Region.ready .any ops listed = [] := by
    cases hr : Region.ready .any ops listed with
    | nil => rfl
    | cons x xs =>
     rw [hr] at hi
     have hlt : t % (x :: xs).length < (x :: xs).length := Nat.mod_lt _ (by simp)
     simp at hi
     simp at hlt
     omega
   simp only [List.reverse_nil, idxL]
   rw [hall listed hn]
   intro j
   induction j using Nat.strongRecOn with
   | ind j ihj =>
    intro hj
    cases hl : listed.getD j true with
    | true => rfl
    | false =>
     have : j ∈ Region.ready .any ops listed := mem_ready.2 ⟨hl, ops[j], by simp [hj], fun e he hb => by
      have hlt := hf.back j ops[j] (by simp [hj]) e he hb
      have := ihj e.on hlt (by omega)
      have hlt2 : e.on < listed.size := by omega
      simp [hlt2] at this ⊢
      exact this⟩
     rw [hnil] at this; simp at this
  | some i =>
   have hmem := mem_ready.1 (List.mem_of_getElem? hi)
   obtain ⟨hun, o, ho, hpre⟩ := hmem
   have hilt : i < ops.size := (Array.getElem?_eq_some_iff.1 ho).1
   have hun' : listed.getD i false = false := by
    have : i < listed.size := by omega
    simp [this] at hun ⊢
    exact hun
   simp only []
   rw [linearise_go_acc, List.reverse_singleton, List.singleton_append]
   simp only [idxL, ho]
   have hanc := iR_ hs ho (fun e he hb => hpre e he hb)
   have hnot : ∀ j, i ∈ (ancs ops).getD j [] → listed.getD j false = false := fun j hj => by
    cases hl : listed.getD j false with
    | false => rfl
    | true =>
     have hjlt : j < ops.size := by
      cases Nat.lt_or_ge j ops.size with
      | inl h => exact h
      | inr h => simp [Array.getElem?_eq_none (show listed.size ≤ j by omega)] at hl
     have : listed.getD i false = true := iR_ hs (i := j) (o := ops[j]) (by simp [hjlt]) (hs j ops[j] (by simp [hjlt]) hl) i hj
     rw [hun'] at this; cases this
   have hslots : ∀ d ∈ o.looksAt ops, sl ops vals s (fun j => listed.getD j false) d = sl ops vals s (fun j => decide (j < i)) d := fun d hd => by
    by_cases hex : ∃ (j : Nat) (o' : Oper), ops[j]? = some o' ∧ o'.dst = some d ∧ j ≠ i
    ·obtain ⟨j, o', hj, hdj, hne⟩ := hex
     rcases hf.look i j o o' d ho hj hdj hd (Ne.symm hne) with ha | ha
     ·rw [lY_ hf hj hdj (hanc j ha), lY_ hf hj hdj (by simpa using hf.ancB i hilt j ha)]
     ·have hji := hf.ancB j (Array.getElem?_eq_some_iff.1 hj).1 i ha
      have e1 := hnot j ha
      rw [f2_ (fun k o'' hk hdk => by rw [hf.uniq k j o'' o' d hk hj hdk hdj]; exact e1), f2_ (fun k o'' hk hdk => by rw [hf.uniq k j o'' o' d hk hj hdk hdj]; simp; omega)]
    ·have hno : ∀ (k : Nat) (o'' : Oper), ops[k]? = some o'' → o''.dst = some d → k = i := fun k o'' hk hdk => Classical.byContradiction fun hne => hex ⟨k, o'', hk, hdk, hne⟩
     rw [f2_ (fun k o'' hk hdk => by rw [hno k o'' hk hdk]; exact hun'), f2_ (fun k o'' hk hdk => by rw [hno k o'' hk hdk]; simp)]
   have hstep := hdyn i hilt (fun j => listed.getD j false) ⟨fun j _ hj => hanc j hj, fun j _ hj => hnot j hj, hun', fun j hj k _ hk hl => iR_ hs (i := j) (o := ops[j]'(hch j hj)) (by simp [hch j hj]) (hs j _ (by simp [hch j hj]) hl) k hk⟩
   rw [mn_ ho, lD_ ho hslots, hstep]
   simp only [Option.map_some, Option.bind_some]
   rw [mr_ hf ho hun']
   have hset : (fun j => listed.getD j false || decide (j = i)) = (fun j => (listed.setIfInBounds i true).getD j false) := by
    funext j
    by_cases hj : j = i
    ·subst hj
     have : j < listed.size := by omega
     simp [this]
    ·rw [getD_set_ne false (Ne.symm hj)]; simp [hj]
   rw [hset]
   refine ih _ _ (by simp [hn]) (fun j o' hj hl e he hb => ?_) ?_
   ·by_cases hji : j = i
    ·subst hji
     rw [ho] at hj; injection hj with hj; subst hj
     exact getD_set_true (hpre e he hb)
    ·have hl : (listed.setIfInBounds i true).getD j false = true := hl
     rw [getD_set_ne false (Ne.symm hji)] at hl
     exact getD_set_true (hs j o' hj hl e he hb)
   ·refine Nat.le_of_lt_succ (Nat.lt_of_lt_of_le (ly_ (fun x _ hx => ?_) ⟨i, List.mem_range.2 hilt, by simpa using hun, ?_⟩) hc)
    ·by_cases hxi : x = i
     ·subst hxi
      have : x < listed.size := by omega
      simp [this] at hx
     ·rw [getD_set_ne true (Ne.symm hxi)] at hx; exact hx
    ·have : i < listed.size := by omega
     simp [this]
theorem pz_ (hst : fW_ ops = true)
  (hdyn : ∀ i, i < ops.size → ∀ c, lF_ (ancs ops) ch i c → ef_ P O ops b i (sl ops vals s (fun j => decide (j < i))) (Sg c) = some (vals i, Sg (fun j => c j || decide (j = i))))
  (hSg : ∀ c c', (∀ j ∈ ch, c j = c' j) → Sg c = Sg c') (hch : ∀ j ∈ ch, j < ops.size) (t : Nat) :
  idxL P O ops (some b) (Region.linearise .any ops t) ⟨s, Sg (fun _ => false)⟩ = some ⟨sl ops vals s (fun j => decide (j < ops.size)), Sg (fun j => decide (j < ops.size))⟩ := by
 have hf := eO_ hst
 have h0 : (fun j => (Array.replicate ops.size false).getD j false) = fun _ => false := by
  funext j
  by_cases hj : j < ops.size <;> simp [hj]
 have h1 : sl ops vals s (fun _ => false) = s := by funext t; exact f2_ fun _ _ _ _ => rfl
 have := rU_ (P := P) (O := O) (vals := vals) (s := s) (b := b) hf hdyn hSg hch ops.size t (Array.replicate ops.size false) (by simp) (fun i o hi hl => by have hl : (Array.replicate ops.size false).getD i false = true := hl; rw [congrFun h0 i] at hl; cases hl) (by
  refine Nat.le_trans (List.countP_le_length) (by simp))
 rw [h0, h1] at this
 exact this
theorem jk_ (hst : fW_ ops = true) {fr : Fr} (hs : fr.s = s) (h0 : Sg (fun _ => false) = fr.σ.bump ops.size)
  (hdyn : ∀ i, i < ops.size → ∀ c, lF_ (ancs ops) ch i c → ef_ P O ops fr.σ.next i (sl ops vals s (fun j => decide (j < i))) (Sg c) = some (vals i, Sg (fun j => c j || decide (j = i))))
  (hSg : ∀ c c', (∀ j ∈ ch, c j = c' j) → Sg c = Sg c') (hch : ∀ j ∈ ch, j < ops.size) :
  nr_ P O ops fr = some ⟨sl ops vals s (fun j => decide (j < ops.size)), Sg (fun j => decide (j < ops.size))⟩ := by
 have h := pz_ (P := P) (O := O) (vals := vals) (s := s) hst hdyn hSg hch
 have hr : idxL P O ops (some fr.σ.next) (List.range ops.size) ⟨s, Sg (fun _ => false)⟩ = some ⟨sl ops vals s (fun j => decide (j < ops.size)), Sg (fun j => decide (j < ops.size))⟩ := by
  have hf := eO_ hst
  have key : ∀ n k, k + n = ops.size → idxL P O ops (some fr.σ.next) (List.range' k n) ⟨sl ops vals s (fun j => decide (j < k)), Sg (fun j => decide (j < k))⟩ = some ⟨sl ops vals s (fun j => decide (j < ops.size)), Sg (fun j => decide (j < ops.size))⟩ := by
   intro n
   induction n with
   | zero => intro k hk; simp only [List.range'_zero, idxL]; rw [show k = ops.size by omega]
   | succ n ih =>
    intro k hk
    have hlt : k < ops.size := by omega
    have ho : ops[k]? = some ops[k] := by simp [hlt]
    have hshut : Shut ops (fun j => decide (j < k)) := fun i o hi hl e he hb => by
     have := hf.back i o hi e he hb
     have hl : decide (i < k) = true := hl
     simp at hl ⊢; omega
    have hstep := hdyn k hlt (fun j => decide (j < k)) ⟨fun j _ hj => by simpa using hf.ancB k hlt j hj, fun j hj hk' => by
     have := hf.ancB j (hch j hj) k hk'
     simp; omega, by simp, fun j hj k' _ hk' hl => by
     have := hf.ancB j (hch j hj) k' hk'
     simp at hl ⊢; omega⟩
    simp only [List.range'_succ, idxL, ho]
    rw [mn_ ho, hstep]
    simp only [Option.map_some, Option.bind_some]
    rw [mr_ hf ho (by simp)]
    have hset : (fun j => decide (j < k) || decide (j = k)) = (fun j => decide (j < k + 1)) := by
     funext j
     rw [Bool.eq_iff_iff]; simp; omega
    rw [hset]
    exact ih (k + 1) (by omega)
  have h1 : sl ops vals s (fun j => decide (j < 0)) = s := by funext t; exact f2_ fun _ _ _ _ => by simp
  have := key ops.size 0 (by omega)
  rw [h1] at this
  rw [List.range_eq_range']
  simpa using this
 unfold nr_
 rw [hs, ← h0]
 rw [if_pos (fun t => by rw [h t, hr]), hr]
end
noncomputable def l2_ (P : Program) (O : ax_) (ops : Array Oper) (b : Nat) : List Nat → Fr → Option Fr
 | [], fr => some fr
 | i :: l, fr => match ops[i]? with
  | none => none
  | some o => (ef_ P O ops b i fr.s fr.σ).bind fun p => if p.2 = fr.σ then l2_ P O ops b l (fr.put o.dst p.1 fr.σ) else none
theorem oI_ {ops : Array Oper} {vals vals' s L} (h : ∀ j, L j = true → vals j = vals' j) : sl ops vals s L = sl ops vals' s L := by
 funext t
 unfold sl
 split
 ·rename_i j hj
  have h1 := List.find?_some hj
  simp only [Bool.and_eq_true] at h1
  exact h j h1.1
 ·rfl
theorem nF_ {O : ax_} {ops : Array Oper} (hf : fh_ ops) {b : Nat} {s : Nat → T} {σ : St} {fr' : Fr} : ∀ n k vals, k + n = ops.size → (∀ i, i < k → ef_ P O ops b i (sl ops vals s (fun j => decide (j < i))) σ = some (vals i, σ)) →
  l2_ P O ops b (List.range' k n) ⟨sl ops vals s (fun j => decide (j < k)), σ⟩ = some fr' →
  ∃ vals, (∀ i, i < ops.size → ef_ P O ops b i (sl ops vals s (fun j => decide (j < i))) σ = some (vals i, σ)) ∧ fr' = ⟨sl ops vals s (fun j => decide (j < ops.size)), σ⟩ := by
 intro n
 induction n with
 | zero =>
  intro k vals hk h1 h2
  simp only [List.range'_zero, l2_] at h2
  injection h2 with h2
  have : k = ops.size := by omega
  subst this
  exact ⟨vals, h1, h2.symm⟩
 | succ n ih =>
  intro k vals hk h1 h2
  have hlt : k < ops.size := by omega
  have ho : ops[k]? = some ops[k] := by simp [hlt]
  simp only [List.range'_succ, l2_, ho] at h2
  obtain ⟨⟨v, σ'⟩, h3, h4⟩ := Option.bind_eq_some_iff.1 h2
  simp only at h4
  split at h4
  ·rename_i he
   subst he
   let vals' : Nat → T := fun j => if j = k then v else vals j
   have e1 : ∀ i, i ≤ k → sl ops vals' s (fun j => decide (j < i)) = sl ops vals s (fun j => decide (j < i)) := fun i hi => oI_ fun j hj => by
    simp at hj
    simp only [vals']; rw [if_neg (by omega)]
   have e2 : (fun j => decide (j < k) || decide (j = k)) = (fun j => decide (j < k + 1)) := by
    funext j
    rw [Bool.eq_iff_iff]; simp; omega
   refine ih (k + 1) vals' (by omega) (fun i hi => ?_) ?_
   ·rw [e1 i (by omega)]
    by_cases hik : i = k
    ·subst hik; simp only [vals', if_pos]; exact h3
    ·simp only [vals', if_neg hik]; exact h1 i (by omega)
   ·have hp := mr_ (vals := vals') (s := s) hf ho (L := fun j => decide (j < k)) (by simp) σ' σ'
    rw [e1 k (Nat.le_refl _), e2] at hp
    rw [← hp]
    simpa [vals'] using h4
  ·cases h4
theorem pp_ {O : ax_} {ops : Array Oper} (hst : fW_ ops = true) {fr fr' : Fr} (h : l2_ P O ops fr.σ.next (List.range ops.size) ⟨fr.s, fr.σ.bump ops.size⟩ = some fr') : nr_ P O ops fr = some fr' := by
 have hf := eO_ hst
 obtain ⟨vals, h1, h2⟩ := nF_ (s := fr.s) hf ops.size 0 (fun _ => .tup []) (by omega) (fun i hi => absurd hi (by omega)) (by
  have h1 : sl ops (fun _ => .tup []) fr.s (fun j => decide (j < 0)) = fr.s := by funext t; exact f2_ fun _ _ _ _ => by simp
  rw [h1, ← List.range_eq_range']; exact h)
 subst h2
 exact jk_ (ch := []) (Sg := fun _ => fr.σ.bump ops.size) hst rfl rfl (fun i hi c _ => h1 i hi) (fun _ _ _ => rfl) (by simp)
end
end Go.Am
end
