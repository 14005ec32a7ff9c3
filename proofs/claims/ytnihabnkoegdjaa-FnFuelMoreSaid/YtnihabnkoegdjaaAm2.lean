/- The abstract machine. -/
import Derived.Test.YtnihabnkoegdjaaAm1
section
set_option linter.unusedVariables false
set_option linter.unusedSimpArgs false
namespace Go.Am
open Go.RowKit Classical
theorem aE_ {f g : T → Option (T × List Nat)} : ∀ {ts vs : List T} {S : List Nat}, (∀ t v S', t ∈ ts → f t = some (v, S') → (∀ b ∈ S', b ∈ S) → g t = some (v, S')) → frzL f ts = some (vs, S) → frzL g ts = some (vs, S)
 | [], _, _, _, h => h
 | t :: ts, vs, S, hg, h => by
  simp only [frzL] at h ⊢
  obtain ⟨⟨v0, S0⟩, h1, h2⟩ := Option.bind_eq_some_iff.1 h
  obtain ⟨⟨vs', S'⟩, h3, h4⟩ := Option.map_eq_some_iff.1 h2
  injection h4 with h4 h5; subst h4; subst h5
  rw [hg t v0 S0 (by simp) h1 (fun b hb => by simp [hb]), aE_ (g := g) (fun t v S1 ht hf hS => hg t v S1 (by simp [ht]) hf (fun b hb => by simp [hS b hb])) h3]
  rfl
theorem mf_ {σ : St} {d : Nat} {z : Bool} {n : Nat} {cs : List T} {v : T} {K : List Nat} (h : own σ d (.row z n cs) = some (v, K)) (σ' : St) (d' : Nat) : own σ' d' (.row z n cs) = some (v, K) := by
 cases z <;> cases n <;> cases cs <;> cases d <;> cases d' <;> simp [own] at h ⊢ <;> exact h
theorem gL_ {σ : St} : ∀ (d : Nat) (t v : T) (S : List Nat), own σ d t = some (v, S) → ∀ d', d ≤ d' → own σ d' t = some (v, S)
 | 0, t, v, S, h, d', _ => by
  cases t with
  | row z n cs => exact mf_ h _ _
  | _ => simp [own] at h <;> cases d' <;> simp [own, h]
 | d + 1, t, v, S, h, d', hd => by
  obtain ⟨d', rfl⟩ : ∃ k, d' = k + 1 := ⟨d' - 1, by omega⟩
  cases t with
  | ref b e off n =>
   simp only [own] at h
   obtain ⟨B, hb, h1⟩ := Option.bind_eq_some_iff.1 h
   split at h1
   ·rename_i hc
    obtain ⟨⟨cs, S1⟩, h2, h3⟩ := Option.map_eq_some_iff.1 h1
    injection h3 with h3 h4; subst h3; subst h4
    have h5 := aE_ (g := own σ d') (fun t v S' _ hh hs => gL_ d t v S' hh d' (by omega)) h2
    simp only [own, hb, Option.bind_some, h5, Option.map_some]
    rw [if_pos hc]
   ·cases h1
  | agg cs =>
   simp only [own] at h
   obtain ⟨⟨cs', S1⟩, h2, h3⟩ := Option.map_eq_some_iff.1 h
   injection h3 with h3 h4; subst h3; subst h4
   simp only [own, aE_ (g := own σ d') (fun t v S' _ hh hs => gL_ d t v S' hh d' (by omega)) h2, Option.map_some]
  | tup cs =>
   simp only [own] at h
   obtain ⟨⟨cs', S1⟩, h2, h3⟩ := Option.map_eq_some_iff.1 h
   injection h3 with h3 h4; subst h3; subst h4
   simp only [own, aE_ (g := own σ d') (fun t v S' _ hh hs => gL_ d t v S' hh d' (by omega)) h2, Option.map_some]
  | row z n cs => exact mf_ h _ _
  | _ => simp [own] at h <;> simp [own, h]
theorem fg_ {σ : St} : ∀ (d : Nat) (t v : T) (S : List Nat), frz σ d t = some (v, S) → ∀ d', d ≤ d' → frz σ d' t = some (v, S)
 | 0, t, v, S, h, d', _ => by
  cases t with
  | ref b e off n => simp [frz] at h
  | agg cs => simp [frz] at h
  | tup cs => simp [frz] at h
  | _ => cases d' <;> simp [frz] at h <;> simp [frz, h]
 | d + 1, t, v, S, h, d', hd => by
  obtain ⟨d', rfl⟩ : ∃ k, d' = k + 1 := ⟨d' - 1, by omega⟩
  cases t with
  | ref b e off n =>
   simp only [frz] at h
   obtain ⟨B, hb, h1⟩ := Option.bind_eq_some_iff.1 h
   split at h1
   ·rename_i hc
    obtain ⟨⟨cs, S1⟩, h2, h3⟩ := Option.map_eq_some_iff.1 h1
    injection h3 with h3 h4; subst h3; subst h4
    have h5 := aE_ (g := frz σ d') (fun t v S' _ hh hs => fg_ d t v S' hh d' (by omega)) h2
    simp only [frz, hb, Option.bind_some, h5, Option.map_some]
    rw [if_pos hc]
   ·cases h1
  | agg cs =>
   simp only [frz] at h
   obtain ⟨⟨cs', S1⟩, h2, h3⟩ := Option.map_eq_some_iff.1 h
   injection h3 with h3 h4; subst h3; subst h4
   simp only [frz, aE_ (g := frz σ d') (fun t v S' _ hh hs => fg_ d t v S' hh d' (by omega)) h2, Option.map_some]
  | tup cs =>
   simp only [frz] at h
   obtain ⟨⟨cs', S1⟩, h2, h3⟩ := Option.map_eq_some_iff.1 h
   injection h3 with h3 h4; subst h3; subst h4
   simp only [frz, aE_ (g := frz σ d') (fun t v S' _ hh hs => fg_ d t v S' hh d' (by omega)) h2, Option.map_some]
  | _ => simp [frz] at h <;> simp [frz, h]
theorem jJ_ {σ : St} {d d' : Nat} {t : T} {p q : T × List Nat} (h : frz σ d t = some p) (k : frz σ d' t = some q) : p = q := by
 have h1 := fg_ d t p.1 p.2 h (max d d') (Nat.le_max_left _ _)
 have h2 := fg_ d' t q.1 q.2 k (max d d') (Nat.le_max_right _ _)
 rw [h1] at h2; injection h2
theorem dC_ {σ : St} {d d' : Nat} : ∀ {ts : List T} {p q : List T × List Nat}, frzL (frz σ d) ts = some p → frzL (frz σ d') ts = some q → p = q
 | [], p, q, h, k => by simp [frzL] at h k; rw [← h, ← k]
 | t :: ts, p, q, h, k => by
  simp only [frzL] at h k
  obtain ⟨p0, h1, h2⟩ := Option.bind_eq_some_iff.1 h
  obtain ⟨p1, h3, h4⟩ := Option.map_eq_some_iff.1 h2
  obtain ⟨q0, k1, k2⟩ := Option.bind_eq_some_iff.1 k
  obtain ⟨q1, k3, k4⟩ := Option.map_eq_some_iff.1 k2
  have e1 := jJ_ h1 k1
  have e2 := dC_ h3 k3
  subst e1; subst e2; rw [← h4, ← k4]
theorem lO_ {σ : St} {d d' : Nat} {t : T} {p q : T × List Nat} (h : own σ d t = some p) (k : own σ d' t = some q) : p = q := by
 have h1 := gL_ d t p.1 p.2 h (max d d') (Nat.le_max_left _ _)
 have h2 := gL_ d' t q.1 q.2 k (max d d') (Nat.le_max_right _ _)
 rw [h1] at h2; injection h2
section
variable {P : Program} {vm : Nat → Md} {X : Ext}
theorem det : ∀ {f args σ r σ'}, EvCall P vm X f args σ r σ' → ∀ r2 σ2, EvCall P vm X f args σ r2 σ2 → r = r2 ∧ σ' = σ2 := by
 intro f args σ r σ' h
 refine EvCall.rec (P := P) (vm := vm) (X := X) (motive_1 := fun f args σ r σ' _ => ∀ r2 σ2, EvCall P vm X f args σ r2 σ2 → r = r2 ∧ σ' = σ2) (motive_2 := fun f args σ r σ' _ => ∀ r2 σ2, EvP P vm X f args σ r2 σ2 → r = r2 ∧ σ' = σ2)
  (motive_3 := fun ops k o fr fr' _ => ∀ fr2, EvO P vm X ops k o fr fr2 → fr' = fr2)
  (motive_4 := fun ops b l fr fr' _ => ∀ fr2, EvI P vm X ops b l fr fr2 → fr' = fr2) (motive_5 := fun c fr x fr' _ => ∀ x2 fr2, EvC P vm X c fr x2 fr2 → x = x2 ∧ fr' = fr2) (motive_6 := fun c n fr x fr' _ => ∀ n2 x2 fr2, EvR P vm X c n2 fr x2 fr2 → x = x2 ∧ fr' = fr2)
  ?_ ?_ ?_ ?_ ?_ ?_ ?_ ?_ ?_ ?_ ?_ ?_ ?_ ?_ ?_ ?_ ?_ ?_ ?_ ?_ ?_ ?_ ?_ ?_ h
 ·intro f fn c args σ x fr r h0 h1 h2 h3 h4 h5 _ h7 h8 ih r2 σ2 k
  cases k with
  | mk k0 k1 k2 k3 k4 k5 k6 k7 k8 =>
   rw [h1] at k1; injection k1 with k1; subst k1
   rw [h3] at k3; injection k3 with k3; subst k3
   obtain ⟨_, rfl⟩ := ih _ _ k6
   rw [h8] at k8; injection k8 with k8; exact ⟨k8, rfl⟩
  | ext k0 k1 => rw [h0] at k0; cases k0
 ·intro f g args σ r σ' h1 h2 r2 σ2 k
  cases k with
  | mk k0 => rw [h1] at k0; cases k0
  | ext k0 k1 =>
   rw [h1] at k0; injection k0 with k0; subst k0
   rw [h2] at k1; injection k1 with k1; injection k1 with a b; exact ⟨a, b⟩
 ·intro f args σ r σ' hv _ ih r2 σ2 k
  cases k with
  | raw _ k1 => exact ih _ _ k1
  | view k0 => rw [hv] at k0; cases k0
  | own k0 => rw [hv] at k0; cases k0
 ·intro D1 D2 f args σ args' S r σ2 r' S2 hv h1 _ h3 h4 h5 ih r3 σ3 k
  cases k with
  | raw k0 => rw [hv] at k0; cases k0
  | view k0 k1 k2 k3 k4 k5 =>
   have k1 := dC_ h1 k1; injection k1 with a b; subst a; subst b
   obtain ⟨rfl, rfl⟩ := ih _ _ k2
   have k3 := jJ_ h3 k3; injection k3 with a b; subst a; subst b
   exact ⟨rfl, rfl⟩
  | own k0 => rw [hv] at k0; cases k0
 ·intro D1 D2 f args σ args' S r σ2 v K hv h1 _ h3 h4 h5 ih r3 σ3 k
  cases k with
  | raw k0 => rw [hv] at k0; cases k0
  | view k0 => rw [hv] at k0; cases k0
  | own k0 k1 k2 k3 k4 k5 =>
   have k1 := dC_ h1 k1; injection k1 with a b; subst a; subst b
   obtain ⟨rfl, rfl⟩ := ih _ _ k2
   have k3 := lO_ h3 k3; injection k3 with a b; subst a; subst b
   exact ⟨rfl, rfl⟩
 ·intro ops kk o fr hw fr2 k
  cases k with
  | skip _ => rfl
  | val k0 => rw [hw] at k0; cases k0
  | nores k0 => rw [hw] at k0; cases k0
  | call k0 => rw [hw] at k0; cases k0
 ·intro ops kk o fr v σ hw ha fr2 k
  cases k with
  | skip k0 => rw [hw] at k0; cases k0
  | val _ k1 => rw [ha] at k1; injection k1 with k1; injection k1 with a b; subst a; subst b; rfl
  | nores _ k1 => rw [ha] at k1; injection k1 with k1; cases k1
  | call _ k1 => rw [ha] at k1; injection k1 with k1; cases k1
 ·intro ops kk o fr σ hw ha fr2 k
  cases k with
  | skip k0 => rw [hw] at k0; cases k0
  | val _ k1 => rw [ha] at k1; injection k1 with k1; cases k1
  | nores _ k1 => rw [ha] at k1; injection k1 with k1; injection k1 with a; subst a; rfl
  | call _ k1 => rw [ha] at k1; injection k1 with k1; cases k1
 ·intro ops kk o fr f args r σ hw ha _ ih fr2 k
  cases k with
  | skip k0 => rw [hw] at k0; cases k0
  | val _ k1 => rw [ha] at k1; injection k1 with k1; cases k1
  | nores _ k1 => rw [ha] at k1; injection k1 with k1; cases k1
  | call _ k1 k2 =>
   rw [ha] at k1; injection k1 with k1; injection k1 with a b; subst a; subst b
   obtain ⟨rfl, rfl⟩ := ih _ _ k2; rfl
 ·intro ops b fr fr2 k; cases k; rfl
 ·intro ops b i l o fr fr1 fr2 h1 _ _ ih1 ih2 fr3 k
  cases k with
  | cons k1 k2 k3 =>
   rw [h1] at k1; injection k1 with k1; subst k1
   obtain rfl := ih1 _ k2
   exact ih2 _ k3
 ·intro fr x2 fr2 k; cases k; exact ⟨rfl, rfl⟩
 ·intro id ops fr fr' _ ih x2 fr2 k
  cases k with
  | region k => exact ⟨rfl, ih _ k⟩
 ·intro id ops fr fr' _ ih x2 fr2 k
  cases k with
  | draw k => exact ⟨rfl, ih 0 _ (k 0)⟩
 ·intro a b fr fr1 x fr2 _ _ ih1 ih2 x2 fr3 k
  cases k with
  | seq k1 k2 =>
   obtain ⟨_, rfl⟩ := ih1 _ _ k1
   exact ih2 _ _ k2
  | seqX k1 hx =>
   obtain ⟨rfl, _⟩ := ih1 _ _ k1
   exact absurd rfl hx
 ·intro a b fr x fr1 _ hx ih x2 fr3 k
  cases k with
  | seq k1 k2 =>
   obtain ⟨rfl, _⟩ := ih _ _ k1
   exact absurd rfl hx
  | seqX k1 _ => exact ih _ _ k1
 ·intro c a b fr x fr' hc _ ih x2 fr2 k
  cases k with
  | condT _ k => exact ih _ _ k
  | condF k0 => rw [hc] at k0; injection k0 with k0; injection k0 with k0; cases k0
 ·intro c a b fr x fr' hc _ ih x2 fr2 k
  cases k with
  | condT k0 => rw [hc] at k0; injection k0 with k0; injection k0 with k0; cases k0
  | condF _ k => exact ih _ _ k
 ·intro id c fr x fr' _ ih x2 fr2 k
  cases k with
  | block k => obtain ⟨rfl, rfl⟩ := ih _ _ k; exact ⟨rfl, rfl⟩
 ·intro c n fr x fr' _ ih x2 fr2 k
  cases k with
  | loop k => exact ih _ _ _ k
 ·intro id fr x2 fr2 k; cases k; exact ⟨rfl, rfl⟩
 ·intro fr x2 fr2 k; cases k; exact ⟨rfl, rfl⟩
 ·intro c n fr fr1 x fr2 _ _ ih1 ih2 n2 x2 fr3 k
  cases k with
  | go k1 k2 => obtain ⟨_, rfl⟩ := ih1 _ _ k1; exact ih2 _ _ _ k2
  | stop k1 hx => obtain ⟨rfl, _⟩ := ih1 _ _ k1; exact absurd rfl hx
 ·intro c n fr x fr1 _ hx ih n2 x2 fr3 k
  cases k with
  | go k1 k2 => obtain ⟨rfl, _⟩ := ih _ _ k1; exact absurd rfl hx
  | stop k1 _ => exact ih _ _ k1
theorem detP {f args σ r σ' r2 σ2} (h : EvP P vm X f args σ r σ') (k : EvP P vm X f args σ r2 σ2) : r = r2 ∧ σ' = σ2 := by
 cases h with
 | raw h0 h1 =>
  cases k with
  | raw _ k1 => exact det h1 _ _ k1
  | view k0 => rw [h0] at k0; cases k0
  | own k0 => rw [h0] at k0; cases k0
 | view h0 h1 h2 h3 h4 h5 =>
  cases k with
  | raw k0 => rw [h0] at k0; cases k0
  | view k0 k1 k2 k3 k4 k5 =>
   have k1 := dC_ h1 k1; injection k1 with a b; subst a; subst b
   obtain ⟨rfl, rfl⟩ := det h2 _ _ k2
   have k3 := jJ_ h3 k3; injection k3 with a b; subst a; subst b
   exact ⟨rfl, rfl⟩
  | own k0 => rw [h0] at k0; cases k0
 | own h0 h1 h2 h3 h4 h5 =>
  cases k with
  | raw k0 => rw [h0] at k0; cases k0
  | view k0 => rw [h0] at k0; cases k0
  | own k0 k1 k2 k3 k4 k5 =>
   have k1 := dC_ h1 k1; injection k1 with a b; subst a; subst b
   obtain ⟨rfl, rfl⟩ := det h2 _ _ k2
   have k3 := lO_ h3 k3; injection k3 with a b; subst a; subst b
   exact ⟨rfl, rfl⟩
end
noncomputable def run (P : Program) (vm : Nat → Md) (X : Ext) : aM_ := fun f args σ =>
 if h : ∃ p : T × St, EvP P vm X f args σ p.1 p.2 then some (Classical.choose h) else none
section
variable {P : Program} {vm : Nat → Md} {X : Ext}
theorem dJ_ {f args σ r σ'} : run P vm X f args σ = some (r, σ') ↔ EvP P vm X f args σ r σ' := by
 unfold run
 constructor
 ·intro h
  split at h
  ·rename_i hx
   injection h with h
   have := Classical.choose_spec hx
   rw [h] at this; exact this
  ·cases h
 ·intro h
  have hx : ∃ p : T × St, EvP P vm X f args σ p.1 p.2 := ⟨(r, σ'), h⟩
  rw [dif_pos hx]
  have := detP (Classical.choose_spec hx) h
  congr 1
  exact Prod.ext this.1 this.2
theorem s9_ {ops : Array Oper} {k : Option Nat} {o : Oper} {fr fr' : Fr} (h : op1 P (run P vm X) ops k o fr = some fr') : EvO P vm X ops k o fr fr' := by
 unfold op1 at h
 split at h
 ·rename_i hw
  obtain ⟨r, hr, h1⟩ := Option.bind_eq_some_iff.1 h
  cases r with
  | val v σ => injection h1 with h1; subst h1; exact .val hw hr
  | skip σ => injection h1 with h1; subst h1; exact .nores hw hr
  | call f args =>
   obtain ⟨⟨r, σ⟩, h2, h3⟩ := Option.bind_eq_some_iff.1 h1
   injection h3 with h3; subst h3
   exact .call hw hr (dJ_.1 h2)
 ·rename_i hw
  injection h with h; subst h
  exact .skip (by simpa using hw)
theorem lJ_ {ops : Array Oper} {b : Option Nat} : ∀ {l : List Nat} {fr fr' : Fr}, idxL P (run P vm X) ops b l fr = some fr' → EvI P vm X ops b l fr fr'
 | [], fr, fr', h => by injection h with h; subst h; exact .nil
 | i :: l, fr, fr', h => by
  simp only [idxL] at h
  split at h
  ·cases h
  ·rename_i o e
   obtain ⟨fr1, h1, h2⟩ := Option.bind_eq_some_iff.1 h
   exact .cons e (s9_ h1) (lJ_ h2)
theorem mt_ (O : aM_) (ops : Array Oper) : ∀ (l : List Oper) (k : Nat), (∀ j, j < l.length → l[j]? = ops[k + j]?) → ∀ fr, idxL P O ops none (List.range' k l.length) fr = opsL P O ops l fr
 | [], k, _, fr => rfl
 | o :: l, k, h, fr => by
  have h0 : ops[k]? = some o := by simpa using (h 0 (by simp)).symm
  simp only [List.length_cons, List.range'_succ, idxL, h0, opsL, Option.map_none]
  congr 1
  funext fr'
  exact mt_ O ops l (k + 1) (fun j hj => by have := h (j + 1) (by simpa using hj); simpa [Nat.add_assoc, Nat.add_comm 1 j] using this) fr'
theorem qr_ {ops : Array Oper} {fr fr' : Fr} (h : opsL P (run P vm X) ops ops.toList fr = some fr') : EvI P vm X ops none (List.range ops.size) fr fr' := by
 refine lJ_ ?_
 rw [List.range_eq_range', ← Array.length_toList, mt_ (run P vm X) ops ops.toList 0 (by simp)]
 exact h
theorem mx_ {id : Nat} {ops : Array Oper} {draw : Bool} {fr fr' : Fr} (h : iz_ P (run P vm X) ops draw fr = some fr') : EvC P vm X (.region id ops draw) fr .normal fr' := by
 unfold iz_ at h
 cases draw with
 | false => simp only [Bool.false_eq_true, if_false] at h; exact .region (qr_ h)
 | true =>
  simp only [if_true] at h
  unfold mH_ at h
  split at h
  ·rename_i hall
   refine .draw fun t => lJ_ ?_
   rw [hall t]; exact h
  ·cases h
theorem codeL_ev : ∀ {c : Code} {fr : Fr} {x : aN_} {fr' : Fr}, ed_ P (run P vm X) c fr = some (x, fr') → EvC P vm X c fr x fr' := by
 intro c
 induction c with
 | skip => intro fr x fr' h; injection h with h; injection h with a b; subst a; subst b; exact .skip
 | region id ops draw =>
  intro fr x fr' h
  obtain ⟨fr1, h1, h2⟩ := Option.map_eq_some_iff.1 h
  injection h2 with a b; subst a; subst b
  exact mx_ h1
 | seq a b iha ihb =>
  intro fr x fr' h
  obtain ⟨⟨y, fr1⟩, h1, h2⟩ := Option.bind_eq_some_iff.1 h
  cases y with
  | normal => exact .seq (iha h1) (ihb h2)
  | exit i => injection h2 with h2; injection h2 with a b; subst a; subst b; exact .seqX (iha h1) (by simp)
  | ret => injection h2 with h2; injection h2 with a b; subst a; subst b; exact .seqX (iha h1) (by simp)
 | cond c a b iha ihb =>
  intro fr x fr' h
  obtain ⟨v, h1, h2⟩ := Option.bind_eq_some_iff.1 h
  split at h2
  ·exact .condT h1 (iha h2)
  ·exact .condF h1 (ihb h2)
  ·cases h2
 | block id c ih =>
  intro fr x fr' h
  obtain ⟨⟨y, fr1⟩, h1, h2⟩ := Option.map_eq_some_iff.1 h
  injection h2 with a b; subst a; subst b
  exact EvC.block (id := id) (ih h1)
 | loop c ih =>
  intro fr x fr' h
  obtain ⟨n, hn⟩ := bQ_.1 h
  refine .loop (n := n) ?_
  clear h
  induction n generalizing fr with
  | zero => simp [fJ_] at hn
  | succ n ih2 =>
   simp only [fJ_] at hn
   obtain ⟨⟨y, fr1⟩, h1, h2⟩ := Option.bind_eq_some_iff.1 hn
   cases y with
   | normal => exact .go (ih h1) (ih2 h2)
   | exit i => injection h2 with h2; injection h2 with a b; subst a; subst b; exact .stop (ih h1) (by simp)
   | ret => injection h2 with h2; injection h2 with a b; subst a; subst b; exact .stop (ih h1) (by simp)
 | exit id => intro fr x fr' h; injection h with h; injection h with a b; subst a; subst b; exact .exit
 | ret => intro fr x fr' h; injection h with h; injection h with a b; subst a; subst b; exact .ret
 | _ => intro fr x fr' h; simp [ed_] at h
theorem eG_ (σ : St) : σ.mark [] = σ := by
 cases σ
 simp only [St.mark, St.mk.injEq, true_and]
 funext i
 simp
theorem pu_ {D1 D2 f : Nat} {fn : Func} {c : Code} {args args' : List T} {S S2 : List Nat} {σ : St} {x : aN_} {fr : Fr} {r r' : T} (hv : vm f = .view) (hX : X f = none) (h1 : P.funcs[f]? = some fn) (h2 : (fn.name == "runtime.NumGoroutine") = false)
  (h3 : fn.body = some c) (h4 : dstsOk fn.ntmps c = true) (h5 : args'.length ≤ fn.ntmps) (hargs : frzL (frz σ D1) args = some (args', S)) (hc : ed_ P (run P vm X) c ⟨enterS args', σ.mark S⟩ = some (x, fr)) (hx : x = .normal ∨ x = .ret)
  (hr : resA P fn fr = some r) (hf : frz fr.σ D2 r = some (r', S2)) (hp : pureT r' = true) (hold : ∀ i, i < σ.next → fr.σ.blk i = (σ.mark S).blk i) :
  run P vm X f args σ = some (r', if leafT r' = true then σ else (σ.mark S).mark (S2.filter fun i => decide (i < σ.next))) :=
 dJ_.2 (.view hv hargs (.mk hX h1 h2 h3 h4 h5 (codeL_ev hc) hx hr) hf hp hold)
theorem p6_ {D1 D2 f : Nat} {fn : Func} {c : Code} {args args' : List T} {S K : List Nat} {σ : St} {x : aN_} {fr : Fr} {r v : T} (hv : vm f = .own) (hX : X f = none) (h1 : P.funcs[f]? = some fn) (h2 : (fn.name == "runtime.NumGoroutine") = false)
  (h3 : fn.body = some c) (h4 : dstsOk fn.ntmps c = true) (h5 : args'.length ≤ fn.ntmps) (hargs : frzL (frz σ D1) args = some (args', S)) (hc : ed_ P (run P vm X) c ⟨enterS args', σ.mark S⟩ = some (x, fr)) (hx : x = .normal ∨ x = .ret)
  (hr : resA P fn fr = some r) (hf : own fr.σ D2 r = some (v, K)) (hK : ∀ b ∈ K, σ.next ≤ b) (hold : ∀ i, i < σ.next → fr.σ.blk i = (σ.mark S).blk i) :
  run P vm X f args σ = some (r, σ.keep fr.σ K) :=
 dJ_.2 (.own hv hargs (.mk hX h1 h2 h3 h4 h5 (codeL_ev hc) hx hr) hf hK hold)
theorem lx_ {f : Nat} {fn : Func} {c : Code} {args : List T} {σ : St} {x : aN_} {fr : Fr} {r : T} (hv : vm f = .raw) (hX : X f = none) (h1 : P.funcs[f]? = some fn) (h2 : (fn.name == "runtime.NumGoroutine") = false)
  (h3 : fn.body = some c) (h4 : dstsOk fn.ntmps c = true) (h5 : args.length ≤ fn.ntmps) (hc : ed_ P (run P vm X) c ⟨enterS args, σ⟩ = some (x, fr)) (hx : x = .normal ∨ x = .ret)
  (hr : resA P fn fr = some r) : run P vm X f args σ = some (r, fr.σ) :=
 dJ_.2 (.raw hv (.mk hX h1 h2 h3 h4 h5 (codeL_ev hc) hx hr))
end
#print axioms sound
end Go.Am
end
section
set_option linter.unusedVariables false
set_option linter.unusedSimpArgs false
namespace Go.Am
open Classical
section
variable {P : Program}
theorem fj_ {s s' : Nat → T} : ∀ {xs : List Operand}, (∀ x ∈ xs, evalO s x = evalO s' x) → bA_ s xs = bA_ s' xs
 | [], _ => rfl
 | x :: xs, h => by
  simp only [bA_]
  rw [h x (by simp), fj_ fun y hy => h y (by simp [hy])]
theorem f0_ {s s' : Nat → T} : ∀ {xs : List (Nat × Operand)}, (∀ x ∈ xs, evalO s x.2 = evalO s' x.2) → dh_ s xs = dh_ s' xs
 | [], _ => rfl
 | (i, x) :: xs, h => by
  simp only [dh_]
  rw [h (i, x) (by simp), f0_ fun y hy => h y (by simp [hy])]
theorem ov_ {k : Option Nat} {s s' : Nat → T} {σ : St} {o : Oper} (h : ∀ x ∈ o.op.operands, evalO s x = evalO s' x) : aOp P k ⟨s, σ⟩ o = aOp P k ⟨s', σ⟩ o := by
 obtain ⟨dst, op, type, pos, after, guard⟩ := o
 cases op <;> simp only [Op.operands] at h <;> simp only [aOp]
 case build t ps => rw [f0_ (s := s) (s' := s') fun x hx => h x.2 (by simp only [List.mem_toArray, List.mem_map]; exact ⟨x, hx, rfl⟩)]
 case buildSlice t n ps => rw [f0_ (s := s) (s' := s') fun x hx => h x.2 (by simp only [List.mem_toArray, List.mem_map]; exact ⟨x, hx, rfl⟩)]
 case makeFunc fn first captured =>
  cases fn <;> simp only
  rw [fj_ (s := s) (s' := s') (xs := first.toList) fun x hx => h x (by simp at hx; simp [hx]), fj_ (s := s) (s' := s') (xs := captured.toList) fun x hx => h x (by simp at hx; simp [hx])]
 case call c =>
  rw [fj_ (s := s) (s' := s') (xs := c.args.toList) fun x hx => h x (by simp at hx; simp [Call.operands, hx])]
  cases hc : c.callee with
  | value f => have hf : evalO s f = evalO s' f := h f (by simp [Call.operands, hc]); simp only [hf]
  | invoke r m => rfl
  | builtin b => cases b <;> rfl
 case makeMap t r => cases r <;> rfl
 case lookup t x i c => cases c <;> simp_all
 case slice t x lo hi mx => cases lo <;> cases hi <;> cases mx <;> simp_all [dP_]
 all_goals (first | rfl | (simp_all; done))
theorem jM_ {ops : Array Oper} {o : Oper} {s s' : Nat → T} (h : ∀ g w d, o.guard = some (g, w) → (ops[g]?).bind (·.dst) = some d → s d = s' d) : wantedA ops o s = wantedA ops o s' := by
 unfold wantedA
 cases hg : o.guard with
 | none => rfl
 | some p =>
  obtain ⟨g, w⟩ := p
  simp only
  cases hd : (ops[g]?).bind (·.dst) with
  | none => rfl
  | some d => simp only [h g w d hg hd]
def ef_ (P : Program) (O : aM_) (ops : Array Oper) (b : Nat) (i : Nat) (s : Nat → T) (σ : St) : Option (T × St) :=
 match ops[i]? with
 | none => none
 | some o =>
  if wantedA ops o s then
   (aOp P (some (b + i)) ⟨s, σ⟩ o).bind fun
    | .val v σ => some (v, σ)
    | .skip σ => some (.tup [], σ)
    | .call f args => O f args σ
  else some (.tup [], σ)
theorem mc_ {O : aM_} {ops : Array Oper} {b i : Nat} {o : Oper} {s : Nat → T} {σ : St} (h : ops[i]? = some o) : op1 P O ops ((some b).map (· + i)) o ⟨s, σ⟩ = (ef_ P O ops b i s σ).map fun p => (Fr.put ⟨s, σ⟩ o.dst p.1 p.2) := by
 unfold op1 ef_
 rw [h]
 simp only [Option.map_some]
 split
 ·cases aOp P (some (b + i)) ⟨s, σ⟩ o with
  | none => rfl
  | some r =>
   simp only [Option.bind_some]
   cases r with
   | val v σ' => rfl
   | skip σ' => rfl
   | call f args =>
    simp only
    cases O f args σ <;> rfl
 ·rfl
theorem lG_ {O : aM_} {ops : Array Oper} {b i : Nat} {o : Oper} {s s' : Nat → T} {σ : St} (h : ops[i]? = some o) (hs : ∀ d ∈ o.looksAt ops, s d = s' d) : ef_ P O ops b i s σ = ef_ P O ops b i s' σ := by
 unfold ef_
 rw [h]
 simp only
 have h1 : wantedA ops o s = wantedA ops o s' := jM_ fun g w d hg hd => hs d (by simp [Oper.looksAt, hg, hd])
 have h2 : aOp P (some (b + i)) ⟨s, σ⟩ o = aOp P (some (b + i)) ⟨s', σ⟩ o := ov_ fun x hx => by
  cases x with
  | tmp t => simp only [evalO]; rw [hs t (by simp only [Oper.looksAt, List.mem_append]; exact .inl (List.mem_filterMap.2 ⟨.tmp t, by simpa using hx, rfl⟩))]
  | _ => rfl
 rw [h1, h2]
def ancM (ops : Array Oper) : List Nat :=
 ops.toList.foldl (fun acc o => acc ++ [o.after.toList.foldl (fun m e => if Region.binds .any e then (m ||| 2 ^ e.on) ||| acc.getD e.on 0 else m) 0]) []
def hh_ (m j : Nat) : Bool := Nat.beq (Nat.land (Nat.shiftRight m j) 1) 1
theorem jT_ (m j : Nat) : hh_ m j = m.testBit j := by
 have e : Nat.land (Nat.shiftRight m j) 1 = (m >>> j) &&& 1 := rfl
 rw [hh_, e, Nat.testBit, Nat.and_comm, Bool.eq_iff_iff]
 have h : 1 &&& (m >>> j) = (m >>> j) % 2 := by rw [Nat.and_comm, Nat.and_one_is_mod]
 rw [h]
 have := Nat.mod_two_eq_zero_or_one (m >>> j)
 constructor
 ·intro h; have := Nat.eq_of_beq_eq_true h; simp [this]
 ·intro h; rcases this with h1 | h1
  ·rw [h1] at h; simp at h
  ·rw [h1]; rfl
def ancs (ops : Array Oper) : List (List Nat) := (ancM ops).map fun m => (List.range ops.size).filter fun j => hh_ m j
theorem dX_ {ops : Array Oper} {i j : Nat} : j ∈ (ancs ops).getD i [] ↔ j < ops.size ∧ hh_ ((ancM ops).getD i 0) j = true := by
 unfold ancs
 rw [List.getD_eq_getElem?_getD, List.getD_eq_getElem?_getD, List.getElem?_map]
 cases (ancM ops)[i]? with
 | none => simp [jT_]
 | some m => simp
def lb_ (A : List (List Nat)) (ch : List Nat) (i : Nat) (c : Nat → Bool) : Prop :=
 (∀ j ∈ ch, j ∈ A.getD i [] → c j = true) ∧ (∀ j ∈ ch, i ∈ A.getD j [] → c j = false) ∧ c i = false ∧ ∀ j ∈ ch, ∀ k ∈ ch, k ∈ A.getD j [] → c j = true → c k = true
def fZ_ (ops : Array Oper) : Bool :=
 let A := ancM ops
 (List.range ops.size).all fun i =>
  match ops[i]? with
  | none => false
  | some o =>
   (o.after.all fun e => !Region.binds .any e || decide (e.on < i)) && Nat.blt (A.getD i 0) (2 ^ i) &&
   (List.range ops.size).all fun j =>
    match ops[j]? with
    | none => false
    | some o' =>
     match o'.dst with
     | none => true
     | some d => i == j || ((o.dst != some d) && (!(o.looksAt ops).contains d || hh_ (A.getD i 0) j || hh_ (A.getD j 0) i))
def Shut (ops : Array Oper) (L : Nat → Bool) : Prop := ∀ i o, ops[i]? = some o → L i = true → ∀ e ∈ o.after, Region.binds .any e = true → L e.on = true
theorem jq_ {L : Nat → Bool} {acc : List Nat} (hacc : ∀ i, L i = true → ∀ j, (acc.getD i 0).testBit j = true → L j = true) : ∀ (es : List Edge) (m : Nat), (∀ j, m.testBit j = true → L j = true) → (∀ e ∈ es, Region.binds .any e = true → L e.on = true) →
  ∀ j, (es.foldl (fun m e => if Region.binds .any e then (m ||| 2 ^ e.on) ||| acc.getD e.on 0 else m) m).testBit j = true → L j = true
 | [], m, hl, _, j, hj => hl j hj
 | e :: es, m, hl, he, j, hj => by
  simp only [List.foldl_cons] at hj
  refine jq_ hacc es _ ?_ (fun e' h => he e' (by simp [h])) j hj
  intro j hj
  split at hj
  ·rename_i hb
   have h1 := he e (by simp) hb
   rw [Nat.testBit_or, Nat.testBit_or, Bool.or_eq_true, Bool.or_eq_true, Nat.testBit_two_pow] at hj
   rcases hj with (hj | hj) | hj
   ·exact hl j hj
   ·have : e.on = j := by simpa using hj
    subst this; exact h1
   ·exact hacc _ h1 j hj
  ·exact hl j hj
theorem kG_ {ops : Array Oper} {L : Nat → Bool} (hL : Shut ops L) : ∀ (l pre : List Oper) (acc : List Nat), ops.toList = pre ++ l → acc.length = pre.length →
  (∀ i o, pre[i]? = some o → (∀ e ∈ o.after, Region.binds .any e = true → L e.on = true) → ∀ j, (acc.getD i 0).testBit j = true → L j = true) →
  ∀ i o, ops[i]? = some o → (∀ e ∈ o.after, Region.binds .any e = true → L e.on = true) →
   ∀ j, ((l.foldl (fun acc o => acc ++ [o.after.toList.foldl (fun m e => if Region.binds .any e then (m ||| 2 ^ e.on) ||| acc.getD e.on 0 else m) 0]) acc).getD i 0).testBit j = true → L j = true
 | [], pre, acc, he, hn, h, i, o, ho, hh, j, hj => by
  refine h i o ?_ hh j hj
  rw [List.append_nil] at he
  rw [← he]; simpa using ho
 | x :: l, pre, acc, he, hn, h, i, o, ho, hh, j, hj => by
  simp only [List.foldl_cons] at hj
  refine kG_ hL l (pre ++ [x]) _ (by simp [he]) (by simp [hn]) ?_ i o ho hh j hj
  intro i o hi hh j hj
  have hacc : ∀ i, L i = true → ∀ j, (acc.getD i 0).testBit j = true → L j = true := fun i hi j hj => by
   cases hp : pre[i]? with
   | none =>
    have : acc.length ≤ i := by rw [hn]; exact List.getElem?_eq_none_iff.1 hp
    rw [List.getD_eq_getElem?_getD, List.getElem?_eq_none this] at hj
    simp at hj
   | some o =>
    refine h i o hp (hL i o ?_ hi) j hj
    have : ops.toList[i]? = some o := by rw [he, List.getElem?_append_left (by exact (List.getElem?_eq_some_iff.1 hp).1)]; exact hp
    simpa using this
  by_cases hlt : i < pre.length
  ·rw [List.getElem?_append_left hlt] at hi
   rw [List.getD_eq_getElem?_getD, List.getElem?_append_left (by omega), ← List.getD_eq_getElem?_getD] at hj
   exact h i o hi hh j hj
  ·have : i = pre.length := by
    have := (List.getElem?_eq_some_iff.1 hi).1
    simp at this; omega
   subst this
   simp at hi; subst hi
   rw [← hn, List.getD_eq_getElem?_getD] at hj
   simp only [List.getElem?_concat_length, Option.getD_some] at hj
   exact jq_ hacc _ 0 (by simp) (fun e he => hh e (by simpa using he)) j hj
theorem id_ {ops : Array Oper} {L : Nat → Bool} (hL : Shut ops L) {i : Nat} {o : Oper} (ho : ops[i]? = some o) (h : ∀ e ∈ o.after, Region.binds .any e = true → L e.on = true) : ∀ j ∈ (ancs ops).getD i [], L j = true := fun j hj =>
 kG_ hL ops.toList [] [] rfl rfl (by simp) i o ho h j (by have := (dX_.1 hj).2; rwa [jT_] at this)
def sl (ops : Array Oper) (vals : Nat → T) (s : Nat → T) (L : Nat → Bool) (t : Nat) : T :=
 match (List.range ops.size).find? (fun j => L j && decide ((ops[j]?).bind (·.dst) = some t)) with
 | some j => vals j
 | none => s t
structure e5_ (ops : Array Oper) : Prop where
 back : ∀ (i : Nat) (o : Oper), ops[i]? = some o → ∀ e ∈ o.after, Region.binds .any e = true → e.on < i
 ancB : ∀ i, i < ops.size → ∀ j ∈ (ancs ops).getD i [], j < i
 uniq : ∀ (i j : Nat) (o o' : Oper) (d : Nat), ops[i]? = some o → ops[j]? = some o' → o.dst = some d → o'.dst = some d → i = j
 look : ∀ (i j : Nat) (o o' : Oper) (d : Nat), ops[i]? = some o → ops[j]? = some o' → o'.dst = some d → d ∈ o.looksAt ops → i ≠ j → j ∈ (ancs ops).getD i [] ∨ i ∈ (ancs ops).getD j []
theorem eN_ {ops : Array Oper} (h : fZ_ ops = true) : e5_ ops := by
 unfold fZ_ at h
 simp only [List.all_eq_true, List.mem_range] at h
 have h1 : ∀ (i : Nat) (o : Oper), ops[i]? = some o → (∀ e ∈ o.after, Region.binds .any e = true → e.on < i) ∧ (∀ j ∈ (ancs ops).getD i [], j < i) ∧ ∀ (j : Nat) (o' : Oper) (d : Nat), ops[j]? = some o' → o'.dst = some d → i = j ∨ (o.dst ≠ some d ∧ (d ∈ o.looksAt ops → hh_ ((ancM ops).getD i 0) j = true ∨ hh_ ((ancM ops).getD j 0) i = true)) := fun i o hi => by
  have hlt := (Array.getElem?_eq_some_iff.1 hi).1
  have := h i hlt
  simp only [hi, Bool.and_eq_true, Array.all_eq_true_iff_forall_mem, decide_eq_true_eq, List.all_eq_true, List.mem_range] at this
  refine ⟨fun e he hb => by have h0 := this.1.1 e he; rw [hb] at h0; simpa using h0, fun j hj => ?_, fun j o' d hj hd => ?_⟩
  ·have h3 := this.1.2
   have h3 : (ancM ops).getD i 0 < 2 ^ i := Nat.le_of_ble_eq_true h3
   have h4 := (dX_.1 hj).2
   rw [jT_] at h4
   refine Nat.lt_of_not_le fun hle => ?_
   rw [Nat.testBit_lt_two_pow (Nat.lt_of_lt_of_le h3 (Nat.pow_le_pow_right (by omega) hle))] at h4; cases h4
  have h2 := this.2 j (Array.getElem?_eq_some_iff.1 hj).1
  simp only [hj, hd, Bool.or_eq_true, beq_iff_eq, Bool.and_eq_true, bne_iff_ne, ne_eq, Bool.not_eq_true', List.contains_eq_mem, decide_eq_true_eq, decide_eq_false_iff_not] at h2
  rcases h2 with h2 | ⟨h2, h3⟩
  ·exact .inl h2
  ·refine .inr ⟨h2, fun hm => ?_⟩
   rcases h3 with (h3 | h3) | h3
   ·exact absurd hm h3
   ·exact .inl h3
   ·exact .inr h3
 refine ⟨fun i o hi => (h1 i o hi).1, fun i hi => ?_, fun i j o o' d hi hj hd hd' => ?_, fun i j o o' d hi hj hd hm hne => ?_⟩
 ·exact (h1 i ops[i] (by simp [hi])).2.1
 ·rcases (h1 i o hi).2.2 j o' d hj hd' with h | ⟨h, _⟩
  ·exact h
  ·exact absurd hd h
 ·rcases (h1 i o hi).2.2 j o' d hj hd with h | ⟨_, h⟩
  ·exact absurd h hne
  ·rcases h hm with h | h
   ·exact .inl (dX_.2 ⟨(Array.getElem?_eq_some_iff.1 hj).1, h⟩)
   ·exact .inr (dX_.2 ⟨(Array.getElem?_eq_some_iff.1 hi).1, h⟩)
theorem lq_ {ops : Array Oper} (hf : e5_ ops) {vals s L} {j : Nat} {o : Oper} {t : Nat} (hj : ops[j]? = some o) (hd : o.dst = some t) (hL : L j = true) : sl ops vals s L t = vals j := by
 unfold sl
 split
 ·rename_i k hk
  have h1 := List.find?_some hk
  simp only [Bool.and_eq_true, decide_eq_true_eq] at h1
  cases hk2 : ops[k]? with
  | none => rw [hk2] at h1; simp at h1
  | some o' =>
   rw [hk2] at h1
   rw [hf.uniq k j o' o t hk2 hj (by simpa using h1.2) hd]
 ·rename_i hk
  have h1 := List.find?_eq_none.1 hk j (List.mem_range.2 (Array.getElem?_eq_some_iff.1 hj).1)
  simp [hL, hj, hd] at h1
theorem fY_ {ops : Array Oper} {vals s L} {t : Nat} (h : ∀ (j : Nat) (o : Oper), ops[j]? = some o → o.dst = some t → L j = false) : sl ops vals s L t = s t := by
 unfold sl
 split
 ·rename_i k hk
  have h1 := List.find?_some hk
  simp only [Bool.and_eq_true, decide_eq_true_eq] at h1
  cases hk2 : ops[k]? with
  | none => rw [hk2] at h1; simp at h1
  | some o' =>
   rw [hk2] at h1
   have := h k o' hk2 (by simpa using h1.2)
   rw [this] at h1; simp at h1
 ·rfl
theorem lM_ {ops : Array Oper} (hf : e5_ ops) {vals s L} {i : Nat} {o : Oper} (hi : ops[i]? = some o) (hL : L i = false) (σ σ' : St) : Fr.put ⟨sl ops vals s L, σ⟩ o.dst (vals i) σ' = ⟨sl ops vals s (fun j => L j || decide (j = i)), σ'⟩ := by
 cases hd : o.dst with
 | none =>
  simp only [Fr.put, Fr.mk.injEq, and_true]
  funext t
  unfold sl
  have : (fun j => L j && decide ((ops[j]?).bind (·.dst) = some t)) = (fun j => (L j || decide (j = i)) && decide ((ops[j]?).bind (·.dst) = some t)) := by
   funext j
   by_cases hj : j = i
   ·subst hj; simp [hi, hd]
   ·simp [hj]
  rw [this]
 | some d =>
  simp only [Fr.put, Fr.mk.injEq, and_true]
  funext t
  by_cases ht : t = d
  ·subst ht
   rw [if_pos rfl, lq_ hf hi hd (by simp)]
  ·rw [if_neg ht]
   unfold sl
   have : (fun j => L j && decide ((ops[j]?).bind (·.dst) = some t)) = (fun j => (L j || decide (j = i)) && decide ((ops[j]?).bind (·.dst) = some t)) := by
    funext j
    by_cases hj : j = i
    ·subst hj; simp [hi, hd, Ne.symm ht]
    ·simp [hj]
   rw [this]
theorem kr_ {α : Type} {p q : α → Bool} : ∀ {l : List α}, (∀ x ∈ l, q x = true → p x = true) → (∃ x ∈ l, p x = true ∧ q x = false) → l.countP q < l.countP p
 | [], _, ⟨x, hx, _⟩ => by simp at hx
 | a :: l, h, ⟨x, hx, hp, hq⟩ => by
  have hle : l.countP q ≤ l.countP p := List.countP_mono_left fun y hy hyq => h y (by simp [hy]) hyq
  simp only [List.countP_cons]
  rcases List.mem_cons.1 hx with rfl | hx
  ·rw [hp, hq]; simp; omega
  ·have := kr_ (l := l) (fun y hy => h y (by simp [hy])) ⟨x, hx, hp, hq⟩
   have h1 := h a (by simp)
   cases hqa : q a <;> cases hpa : p a <;> simp_all <;> omega
section
variable {O : aM_} {ops : Array Oper} {ch : List Nat} {vals : Nat → T} {Sg : (Nat → Bool) → St} {s : Nat → T} {b : Nat}
theorem qI_ (hf : e5_ ops)
  (hdyn : ∀ i, i < ops.size → ∀ c, lb_ (ancs ops) ch i c → ef_ P O ops b i (sl ops vals s (fun j => decide (j < i))) (Sg c) = some (vals i, Sg (fun j => c j || decide (j = i))))
  (hSg : ∀ c c', (∀ j ∈ ch, c j = c' j) → Sg c = Sg c') (hch : ∀ j ∈ ch, j < ops.size) :
  ∀ (fuel t : Nat) (listed : Array Bool), listed.size = ops.size → Shut ops (fun j => listed.getD j false) → (List.range ops.size).countP (fun j => !listed.getD j true) ≤ fuel →
   idxL P O ops (some b) (Region.linearise.go .any ops fuel t listed []) ⟨sl ops vals s (fun j => listed.getD j false), Sg (fun j => listed.getD j false)⟩ = some ⟨sl ops vals s (fun j => decide (j < ops.size)), Sg (fun j => decide (j < ops.size))⟩ := by
 have hall : ∀ listed : Array Bool, listed.size = ops.size → (∀ j, j < ops.size → listed.getD j true = true) → (⟨sl ops vals s (fun j => listed.getD j false), Sg (fun j => listed.getD j false)⟩ : Fr) = ⟨sl ops vals s (fun j => decide (j < ops.size)), Sg (fun j => decide (j < ops.size))⟩ := fun listed hn h => by
  have : (fun j => listed.getD j false) = (fun j => decide (j < ops.size)) := by
   funext j
   by_cases hj : j < ops.size
   ·have := h j hj
    simp [hn, hj] at this ⊢
    exact this
   ·simp [hn, hj]
  rw [this]
 intro fuel
 induction fuel with
 | zero =>
  intro t listed hn hs hc
  simp only [Region.linearise.go, List.reverse_nil, idxL]
  rw [hall listed hn]
  intro j hj
  have h0 : (List.range ops.size).countP (fun j => !listed.getD j true) = 0 := by omega
  have := List.countP_eq_zero.1 h0 j (List.mem_range.2 hj)
  simpa using this
 | succ fuel ih =>
  intro t listed hn hs hc
  simp only [Region.linearise.go]
  change idxL P O ops (some b) (match (Region.ready .any ops listed)[t % (Region.ready .any ops listed).length]? with
   | some i => Region.linearise.go .any ops fuel (t / (Region.ready .any ops listed).length) (listed.setIfInBounds i true) [i]
   | none => [].reverse) _ = _
  cases hi : (Region.ready .any ops listed)[t % (Region.ready .any ops listed).length]? with
  | none =>
   have hnil : Region.ready .any ops listed = [] := by
    cases hr : Region.ready .any ops listed with
    | nil => rfl
    | cons x xs =>
     rw [hr] at hi
     have hlt : t % (x :: xs).length < (x :: xs).length := Nat.mod_lt _ (by simp)
     simp at hi
     simp at hlt
     omega
   simp only [List.reverse_nil, idxL]
   rw [hall listed hn]
   intro j
   induction j using Nat.strongRecOn with
   | ind j ihj =>
    intro hj
    cases hl : listed.getD j true with
    | true => rfl
    | false =>
     have : j ∈ Region.ready .any ops listed := mem_ready.2 ⟨hl, ops[j], by simp [hj], fun e he hb => by
      have hlt := hf.back j ops[j] (by simp [hj]) e he hb
      have := ihj e.on hlt (by omega)
      have hlt2 : e.on < listed.size := by omega
      simp [hlt2] at this ⊢
      exact this⟩
     rw [hnil] at this; simp at this
  | some i =>
   have hmem := mem_ready.1 (List.mem_of_getElem? hi)
   obtain ⟨hun, o, ho, hpre⟩ := hmem
   have hilt : i < ops.size := (Array.getElem?_eq_some_iff.1 ho).1
   have hun' : listed.getD i false = false := by
    have : i < listed.size := by omega
    simp [this] at hun ⊢
    exact hun
   simp only []
   rw [linearise_go_acc, List.reverse_singleton, List.singleton_append]
   simp only [idxL, ho]
   have hanc := id_ hs ho (fun e he hb => hpre e he hb)
   have hnot : ∀ j, i ∈ (ancs ops).getD j [] → listed.getD j false = false := fun j hj => by
    cases hl : listed.getD j false with
    | false => rfl
    | true =>
     have hjlt : j < ops.size := by
      cases Nat.lt_or_ge j ops.size with
      | inl h => exact h
      | inr h => simp [Array.getElem?_eq_none (show listed.size ≤ j by omega)] at hl
     have : listed.getD i false = true := id_ hs (i := j) (o := ops[j]) (by simp [hjlt]) (hs j ops[j] (by simp [hjlt]) hl) i hj
     rw [hun'] at this; cases this
   have hslots : ∀ d ∈ o.looksAt ops, sl ops vals s (fun j => listed.getD j false) d = sl ops vals s (fun j => decide (j < i)) d := fun d hd => by
    by_cases hex : ∃ (j : Nat) (o' : Oper), ops[j]? = some o' ∧ o'.dst = some d ∧ j ≠ i
    ·obtain ⟨j, o', hj, hdj, hne⟩ := hex
     rcases hf.look i j o o' d ho hj hdj hd (Ne.symm hne) with ha | ha
     ·rw [lq_ hf hj hdj (hanc j ha), lq_ hf hj hdj (by simpa using hf.ancB i hilt j ha)]
     ·have hji := hf.ancB j (Array.getElem?_eq_some_iff.1 hj).1 i ha
      have e1 := hnot j ha
      rw [fY_ (fun k o'' hk hdk => by rw [hf.uniq k j o'' o' d hk hj hdk hdj]; exact e1), fY_ (fun k o'' hk hdk => by rw [hf.uniq k j o'' o' d hk hj hdk hdj]; simp; omega)]
    ·have hno : ∀ (k : Nat) (o'' : Oper), ops[k]? = some o'' → o''.dst = some d → k = i := fun k o'' hk hdk => Classical.byContradiction fun hne => hex ⟨k, o'', hk, hdk, hne⟩
     rw [fY_ (fun k o'' hk hdk => by rw [hno k o'' hk hdk]; exact hun'), fY_ (fun k o'' hk hdk => by rw [hno k o'' hk hdk]; simp)]
   have hstep := hdyn i hilt (fun j => listed.getD j false) ⟨fun j _ hj => hanc j hj, fun j _ hj => hnot j hj, hun', fun j hj k _ hk hl => id_ hs (i := j) (o := ops[j]'(hch j hj)) (by simp [hch j hj]) (hs j _ (by simp [hch j hj]) hl) k hk⟩
   rw [mc_ ho, lG_ ho hslots, hstep]
   simp only [Option.map_some, Option.bind_some]
   rw [lM_ hf ho hun']
   have hset : (fun j => listed.getD j false || decide (j = i)) = (fun j => (listed.setIfInBounds i true).getD j false) := by
    funext j
    by_cases hj : j = i
    ·subst hj
     have : j < listed.size := by omega
     simp [this]
    ·rw [getD_set_ne false (Ne.symm hj)]; simp [hj]
   rw [hset]
   refine ih _ _ (by simp [hn]) (fun j o' hj hl e he hb => ?_) ?_
   ·by_cases hji : j = i
    ·subst hji
     rw [ho] at hj; injection hj with hj; subst hj
     exact getD_set_true (hpre e he hb)
    ·have hl : (listed.setIfInBounds i true).getD j false = true := hl
     rw [getD_set_ne false (Ne.symm hji)] at hl
     exact getD_set_true (hs j o' hj hl e he hb)
   ·refine Nat.le_of_lt_succ (Nat.lt_of_lt_of_le (kr_ (fun x _ hx => ?_) ⟨i, List.mem_range.2 hilt, by simpa using hun, ?_⟩) hc)
    ·by_cases hxi : x = i
     ·subst hxi
      have : x < listed.size := by omega
      simp [this] at hx
     ·rw [getD_set_ne true (Ne.symm hxi)] at hx; exact hx
    ·have : i < listed.size := by omega
     simp [this]
theorem n6_ (hst : fZ_ ops = true)
  (hdyn : ∀ i, i < ops.size → ∀ c, lb_ (ancs ops) ch i c → ef_ P O ops b i (sl ops vals s (fun j => decide (j < i))) (Sg c) = some (vals i, Sg (fun j => c j || decide (j = i))))
  (hSg : ∀ c c', (∀ j ∈ ch, c j = c' j) → Sg c = Sg c') (hch : ∀ j ∈ ch, j < ops.size) (t : Nat) :
  idxL P O ops (some b) (Region.linearise .any ops t) ⟨s, Sg (fun _ => false)⟩ = some ⟨sl ops vals s (fun j => decide (j < ops.size)), Sg (fun j => decide (j < ops.size))⟩ := by
 have hf := eN_ hst
 have h0 : (fun j => (Array.replicate ops.size false).getD j false) = fun _ => false := by
  funext j
  by_cases hj : j < ops.size <;> simp [hj]
 have h1 : sl ops vals s (fun _ => false) = s := by funext t; exact fY_ fun _ _ _ _ => rfl
 have := qI_ (P := P) (O := O) (vals := vals) (s := s) (b := b) hf hdyn hSg hch ops.size t (Array.replicate ops.size false) (by simp) (fun i o hi hl => by have hl : (Array.replicate ops.size false).getD i false = true := hl; rw [congrFun h0 i] at hl; cases hl) (by
  refine Nat.le_trans (List.countP_le_length) (by simp))
 rw [h0, h1] at this
 exact this
theorem i8_ (hst : fZ_ ops = true) {fr : Fr} (hs : fr.s = s) (h0 : Sg (fun _ => false) = fr.σ.bump ops.size)
  (hdyn : ∀ i, i < ops.size → ∀ c, lb_ (ancs ops) ch i c → ef_ P O ops fr.σ.next i (sl ops vals s (fun j => decide (j < i))) (Sg c) = some (vals i, Sg (fun j => c j || decide (j = i))))
  (hSg : ∀ c c', (∀ j ∈ ch, c j = c' j) → Sg c = Sg c') (hch : ∀ j ∈ ch, j < ops.size) :
  mH_ P O ops fr = some ⟨sl ops vals s (fun j => decide (j < ops.size)), Sg (fun j => decide (j < ops.size))⟩ := by
 have h := n6_ (P := P) (O := O) (vals := vals) (s := s) hst hdyn hSg hch
 have hr : idxL P O ops (some fr.σ.next) (List.range ops.size) ⟨s, Sg (fun _ => false)⟩ = some ⟨sl ops vals s (fun j => decide (j < ops.size)), Sg (fun j => decide (j < ops.size))⟩ := by
  have hf := eN_ hst
  have key : ∀ n k, k + n = ops.size → idxL P O ops (some fr.σ.next) (List.range' k n) ⟨sl ops vals s (fun j => decide (j < k)), Sg (fun j => decide (j < k))⟩ = some ⟨sl ops vals s (fun j => decide (j < ops.size)), Sg (fun j => decide (j < ops.size))⟩ := by
   intro n
   induction n with
   | zero => intro k hk; simp only [List.range'_zero, idxL]; rw [show k = ops.size by omega]
   | succ n ih =>
    intro k hk
    have hlt : k < ops.size := by omega
    have ho : ops[k]? = some ops[k] := by simp [hlt]
    have hshut : Shut ops (fun j => decide (j < k)) := fun i o hi hl e he hb => by
     have := hf.back i o hi e he hb
     have hl : decide (i < k) = true := hl
     simp at hl ⊢; omega
    have hstep := hdyn k hlt (fun j => decide (j < k)) ⟨fun j _ hj => by simpa using hf.ancB k hlt j hj, fun j hj hk' => by
     have := hf.ancB j (hch j hj) k hk'
     simp; omega, by simp, fun j hj k' _ hk' hl => by
     have := hf.ancB j (hch j hj) k' hk'
     simp at hl ⊢; omega⟩
    simp only [List.range'_succ, idxL, ho]
    rw [mc_ ho, hstep]
    simp only [Option.map_some, Option.bind_some]
    rw [lM_ hf ho (by simp)]
    have hset : (fun j => decide (j < k) || decide (j = k)) = (fun j => decide (j < k + 1)) := by
     funext j
     rw [Bool.eq_iff_iff]; simp; omega
    rw [hset]
    exact ih (k + 1) (by omega)
  have h1 : sl ops vals s (fun j => decide (j < 0)) = s := by funext t; exact fY_ fun _ _ _ _ => by simp
  have := key ops.size 0 (by omega)
  rw [h1] at this
  rw [List.range_eq_range']
  simpa using this
 unfold mH_
 rw [hs, ← h0]
 rw [if_pos (fun t => by rw [h t, hr]), hr]
end
noncomputable def lm_ (P : Program) (O : aM_) (ops : Array Oper) (b : Nat) : List Nat → Fr → Option Fr
 | [], fr => some fr
 | i :: l, fr => match ops[i]? with
  | none => none
  | some o => (ef_ P O ops b i fr.s fr.σ).bind fun p => if p.2 = fr.σ then lm_ P O ops b l (fr.put o.dst p.1 fr.σ) else none
theorem od_ {ops : Array Oper} {vals vals' s L} (h : ∀ j, L j = true → vals j = vals' j) : sl ops vals s L = sl ops vals' s L := by
 funext t
 unfold sl
 split
 ·rename_i j hj
  have h1 := List.find?_some hj
  simp only [Bool.and_eq_true] at h1
  exact h j h1.1
 ·rfl
theorem mV_ {O : aM_} {ops : Array Oper} (hf : e5_ ops) {b : Nat} {s : Nat → T} {σ : St} {fr' : Fr} : ∀ n k vals, k + n = ops.size → (∀ i, i < k → ef_ P O ops b i (sl ops vals s (fun j => decide (j < i))) σ = some (vals i, σ)) →
  lm_ P O ops b (List.range' k n) ⟨sl ops vals s (fun j => decide (j < k)), σ⟩ = some fr' →
  ∃ vals, (∀ i, i < ops.size → ef_ P O ops b i (sl ops vals s (fun j => decide (j < i))) σ = some (vals i, σ)) ∧ fr' = ⟨sl ops vals s (fun j => decide (j < ops.size)), σ⟩ := by
 intro n
 induction n with
 | zero =>
  intro k vals hk h1 h2
  simp only [List.range'_zero, lm_] at h2
  injection h2 with h2
  have : k = ops.size := by omega
  subst this
  exact ⟨vals, h1, h2.symm⟩
 | succ n ih =>
  intro k vals hk h1 h2
  have hlt : k < ops.size := by omega
  have ho : ops[k]? = some ops[k] := by simp [hlt]
  simp only [List.range'_succ, lm_, ho] at h2
  obtain ⟨⟨v, σ'⟩, h3, h4⟩ := Option.bind_eq_some_iff.1 h2
  simp only at h4
  split at h4
  ·rename_i he
   subst he
   let vals' : Nat → T := fun j => if j = k then v else vals j
   have e1 : ∀ i, i ≤ k → sl ops vals' s (fun j => decide (j < i)) = sl ops vals s (fun j => decide (j < i)) := fun i hi => od_ fun j hj => by
    simp at hj
    simp only [vals']; rw [if_neg (by omega)]
   have e2 : (fun j => decide (j < k) || decide (j = k)) = (fun j => decide (j < k + 1)) := by
    funext j
    rw [Bool.eq_iff_iff]; simp; omega
   refine ih (k + 1) vals' (by omega) (fun i hi => ?_) ?_
   ·rw [e1 i (by omega)]
    by_cases hik : i = k
    ·subst hik; simp only [vals', if_pos]; exact h3
    ·simp only [vals', if_neg hik]; exact h1 i (by omega)
   ·have hp := lM_ (vals := vals') (s := s) hf ho (L := fun j => decide (j < k)) (by simp) σ' σ'
    rw [e1 k (Nat.le_refl _), e2] at hp
    rw [← hp]
    simpa [vals'] using h4
  ·cases h4
theorem oB_ {O : aM_} {ops : Array Oper} (hst : fZ_ ops = true) {fr fr' : Fr} (h : lm_ P O ops fr.σ.next (List.range ops.size) ⟨fr.s, fr.σ.bump ops.size⟩ = some fr') : mH_ P O ops fr = some fr' := by
 have hf := eN_ hst
 obtain ⟨vals, h1, h2⟩ := mV_ (s := fr.s) hf ops.size 0 (fun _ => .tup []) (by omega) (fun i hi => absurd hi (by omega)) (by
  have h1 : sl ops (fun _ => .tup []) fr.s (fun j => decide (j < 0)) = fr.s := by funext t; exact fY_ fun _ _ _ _ => by simp
  rw [h1, ← List.range_eq_range']; exact h)
 subst h2
 exact i8_ (ch := []) (Sg := fun _ => fr.σ.bump ops.size) hst rfl rfl (fun i hi c _ => h1 i hi) (fun _ _ _ => rfl) (by simp)
end
end Go.Am
end
section
set_option linter.unusedVariables false
set_option linter.unusedSimpArgs false
namespace Go.Am
open Classical
section
variable (P : Program) (O : aM_)
def resQ (K : Fr → Prop) (fr : Fr) (dst : Option Nat) : Option ARes → Prop
 | some (.val v σ) => K (fr.put dst v σ)
 | some (.skip σ) => K (fr.put dst (.tup []) σ)
 | some (.call f args) => ∃ r σ, O f args fr.σ = some (r, σ) ∧ K (fr.put dst r σ)
 | none => False
def opQ (ops : Array Oper) (k : Option Nat) (o : Oper) (K : Fr → Prop) (fr : Fr) : Prop :=
 bif wantedA ops o fr.s then resQ O K fr o.dst (aOp P k fr o) else K (fr.put o.dst (.tup []) fr.σ)
def opsQ (ops : Array Oper) : List Oper → (Fr → Prop) → Fr → Prop
 | [], K, fr => K fr
 | o :: l, K, fr => opQ P O ops none o (opsQ ops l K) fr
def resD (K : Fr → Prop) (fr : Fr) (dst : Option Nat) : Option ARes → Prop
 | some (.val v σ) => σ = fr.σ ∧ K (fr.put dst v fr.σ)
 | some (.skip σ) => σ = fr.σ ∧ K (fr.put dst (.tup []) fr.σ)
 | some (.call f args) => ∃ r, O f args fr.σ = some (r, fr.σ) ∧ K (fr.put dst r fr.σ)
 | none => False
def opD (ops : Array Oper) (k : Nat) (o : Oper) (K : Fr → Prop) (fr : Fr) : Prop :=
 bif wantedA ops o fr.s then resD O K fr o.dst (aOp P (some k) fr o) else K (fr.put o.dst (.tup []) fr.σ)
def opsD (ops : Array Oper) (b : Nat) : Nat → List Oper → (Fr → Prop) → Fr → Prop
 | _, [], K, fr => K fr
 | i, o :: l, K, fr => opD P O ops (b + i) o (opsD ops b (i + 1) l K) fr
def oJ_ (ops : Array Oper) (K : Fr → Prop) (fr : Fr) : Prop := ∃ fr', mH_ P O ops fr = some fr' ∧ K fr'
def qg_ (ops : Array Oper) (K : Fr → Prop) (fr : Fr) : Bool → Prop
 | false => opsQ P O ops ops.toList K fr
 | true => oJ_ P O ops K fr
def seqQ (K : Fr → Prop) (Q : aN_ → Fr → Prop) : aN_ → Fr → Prop
 | .normal, fr => K fr
 | .exit i, fr => Q (.exit i) fr
 | .ret, fr => Q .ret fr
def blkQ (id : Nat) (Q : aN_ → Fr → Prop) : aN_ → Fr → Prop
 | .normal, fr => Q .normal fr
 | .exit i, fr => Q (if i = id then .normal else .exit i) fr
 | .ret, fr => Q .ret fr
def nv_ (K1 K2 : Fr → Prop) (fr : Fr) : Option T → Prop
 | some (.bool b) => (b = true → K1 fr) ∧ (b = false → K2 fr)
 | _ => False
def pb_ (body : Fr → Option (aN_ × Fr)) (Q : aN_ → Fr → Prop) (fr : Fr) : Prop := ∃ x fr', j9_ body fr = some (x, fr') ∧ Q x fr'
def codeQ : Code → (aN_ → Fr → Prop) → Fr → Prop
 | .skip, Q, fr => Q .normal fr
 | .region _ ops draw, Q, fr => qg_ P O ops (Q .normal) fr draw
 | .seq a b, Q, fr => codeQ a (seqQ (codeQ b Q) Q) fr
 | .cond c a b, Q, fr => nv_ (codeQ a Q) (codeQ b Q) fr (evalO fr.s c)
 | .block id c, Q, fr => codeQ c (blkQ id Q) fr
 | .loop c, Q, fr => pb_ (ed_ P O c) Q fr
 | .exit id, Q, fr => Q (.exit id) fr
 | .ret, Q, fr => Q .ret fr
 | _, _, _ => False
end
section
variable {P : Program} {O : aM_}
theorem nZ_ {ops : Array Oper} {k : Option Nat} {o : Oper} {K : Fr → Prop} {fr : Fr} (h : opQ P O ops k o K fr) : ∃ fr', op1 P O ops k o fr = some fr' ∧ K fr' := by
 unfold opQ at h
 unfold op1
 cases hw : wantedA ops o fr.s with
 | false => rw [hw] at h; exact ⟨_, rfl, h⟩
 | true =>
  rw [hw] at h
  simp only [cond_true] at h
  simp only [if_true]
  unfold resQ at h
  split at h
  ·rename_i v σ e; rw [e]; exact ⟨_, rfl, h⟩
  ·rename_i σ e; rw [e]; exact ⟨_, rfl, h⟩
  ·rename_i f args e
   obtain ⟨r, σ, h1, h2⟩ := h
   rw [e]; simp only [Option.bind_some, h1]; exact ⟨_, rfl, h2⟩
  ·exact h.elim
theorem iW_ {ops : Array Oper} {K : Fr → Prop} : ∀ {l : List Oper} {fr : Fr}, opsQ P O ops l K fr → ∃ fr', opsL P O ops l fr = some fr' ∧ K fr'
 | [], fr, h => ⟨fr, rfl, h⟩
 | o :: l, fr, h => by
  obtain ⟨fr1, h1, h2⟩ := nZ_ h
  obtain ⟨fr2, h3, h4⟩ := iW_ h2
  exact ⟨fr2, by simp only [opsL, h1, Option.bind_some]; exact h3, h4⟩
theorem og_ {ops : Array Oper} {b i : Nat} {o : Oper} (ho : ops[i]? = some o) {K : Fr → Prop} {fr : Fr} (h : opD P O ops (b + i) o K fr) : ∃ v, ef_ P O ops b i fr.s fr.σ = some (v, fr.σ) ∧ K (fr.put o.dst v fr.σ) := by
 unfold opD at h
 cases hw : wantedA ops o fr.s with
 | false => rw [hw] at h; exact ⟨.tup [], by simp [ef_, ho, hw], h⟩
 | true =>
  rw [hw] at h
  simp only [cond_true] at h
  unfold resD at h
  split at h
  ·rename_i v σ e; exact ⟨v, by simp [ef_, ho, hw, e, h.1], h.2⟩
  ·rename_i σ e; exact ⟨.tup [], by simp [ef_, ho, hw, e, h.1], h.2⟩
  ·rename_i f args e
   obtain ⟨r, h1, h2⟩ := h
   exact ⟨r, by simp [ef_, ho, hw, e, h1], h2⟩
  ·exact h.elim
theorem jh_ {ops : Array Oper} {b : Nat} {K : Fr → Prop} : ∀ {l : List Oper} {i : Nat} {fr : Fr}, (∀ j, j < l.length → l[j]? = ops[i + j]?) → opsD P O ops b i l K fr → ∃ fr', lm_ P O ops b (List.range' i l.length) fr = some fr' ∧ K fr'
 | [], i, fr, _, h => ⟨fr, rfl, h⟩
 | o :: l, i, fr, hl, h => by
  have h0 : ops[i]? = some o := by simpa using (hl 0 (by simp)).symm
  obtain ⟨v, h1, h2⟩ := og_ h0 h
  obtain ⟨fr2, h3, h4⟩ := jh_ (fun j hj => by have := hl (j + 1) (by simpa using hj); simpa [Nat.add_assoc, Nat.add_comm 1 j] using this) h2
  refine ⟨fr2, ?_, h4⟩
  simp only [List.length_cons, List.range'_succ, lm_, h0, h1, Option.bind_some, if_true]
  exact h3
theorem mJ_ {ops : Array Oper} (hst : fZ_ ops = true) {K : Fr → Prop} {fr : Fr} (h : opsD P O ops fr.σ.next 0 ops.toList K ⟨fr.s, fr.σ.bump ops.size⟩) : oJ_ P O ops K fr := by
 obtain ⟨fr', h1, h2⟩ := jh_ (by simp) h
 refine ⟨fr', oB_ hst ?_, h2⟩
 rw [List.range_eq_range', ← Array.length_toList]
 exact h1
theorem codeQ_sound : ∀ {c : Code} {Q : aN_ → Fr → Prop} {fr : Fr}, codeQ P O c Q fr → ∃ x fr', ed_ P O c fr = some (x, fr') ∧ Q x fr' := by
 intro c
 induction c with
 | skip => intro Q fr h; exact ⟨_, _, rfl, h⟩
 | region id ops draw =>
  intro Q fr h
  cases draw with
  | false =>
   obtain ⟨fr', h1, h2⟩ := iW_ h
   exact ⟨_, fr', by simp only [ed_, iz_, Bool.false_eq_true, if_false, h1]; rfl, h2⟩
  | true =>
   obtain ⟨fr', h1, h2⟩ := h
   exact ⟨_, fr', by simp only [ed_, iz_, if_true, h1]; rfl, h2⟩
 | seq a b iha ihb =>
  intro Q fr h
  obtain ⟨x, fr1, h1, h2⟩ := iha h
  cases x with
  | normal =>
   obtain ⟨x, fr2, h3, h4⟩ := ihb h2
   exact ⟨x, fr2, by simp only [ed_, h1, Option.bind_some]; exact h3, h4⟩
  | exit i => exact ⟨_, fr1, by simp only [ed_, h1, Option.bind_some], h2⟩
  | ret => exact ⟨_, fr1, by simp only [ed_, h1, Option.bind_some], h2⟩
 | cond c a b iha ihb =>
  intro Q fr h
  simp only [codeQ] at h
  unfold nv_ at h
  split at h
  ·rename_i v hv
   cases v with
   | true =>
    obtain ⟨x, fr1, h1, h2⟩ := iha (h.1 rfl)
    exact ⟨x, fr1, by simp only [ed_, hv, Option.bind_some]; exact h1, h2⟩
   | false =>
    obtain ⟨x, fr1, h1, h2⟩ := ihb (h.2 rfl)
    exact ⟨x, fr1, by simp only [ed_, hv, Option.bind_some]; exact h1, h2⟩
  ·exact h.elim
 | block id c ih =>
  intro Q fr h
  obtain ⟨x, fr1, h1, h2⟩ := ih h
  refine ⟨x.blk id, fr1, by simp only [ed_, h1, Option.map_some], ?_⟩
  cases x <;> exact h2
 | loop c ih =>
  intro Q fr h
  obtain ⟨x, fr', h1, h2⟩ := h
  exact ⟨x, fr', h1, h2⟩
 | exit id => intro Q fr h; exact ⟨_, _, rfl, h⟩
 | ret => intro Q fr h; exact ⟨_, _, rfl, h⟩
 | _ => intro Q fr h; exact h.elim
end
end Go.Am
end
section
set_option linter.unusedVariables false
set_option linter.unusedSimpArgs false
namespace Go.Am
open Classical Go.RowKit
theorem ic_ {f : T → Option (T × List Nat)} : ∀ {ts vs : List T} {S : List Nat}, frzL f ts = some (vs, S) → vs.length = ts.length
 | [], _, _, h => by simp [frzL] at h; simp [← h.1]
 | t :: ts, vs, S, h => by
  simp only [frzL] at h
  obtain ⟨p, h1, h2⟩ := Option.bind_eq_some_iff.1 h
  obtain ⟨q, h3, h4⟩ := Option.map_eq_some_iff.1 h2
  injection h4 with h4 h5; subst h4
  simp [ic_ h3]
theorem f3_ {f g : T → Option (T × List Nat)} (hfg : ∀ t v S, f t = some (v, S) → g v = some (v, [])) : ∀ {ts vs : List T} {S : List Nat}, frzL f ts = some (vs, S) → frzL g vs = some (vs, [])
 | [], _, _, h => by simp [frzL] at h; obtain ⟨rfl, _⟩ := h; simp [frzL]
 | t :: ts, vs, S, h => by
  simp only [frzL] at h
  obtain ⟨⟨v0, S0⟩, h1, h2⟩ := Option.bind_eq_some_iff.1 h
  obtain ⟨⟨vs', S'⟩, h3, h4⟩ := Option.map_eq_some_iff.1 h2
  injection h4 with h4 h5; subst h4; subst h5
  simp only [frzL, hfg _ _ _ h1, Option.bind_some, f3_ hfg h3, Option.map_some]
  rfl
theorem hS_ {σ σ' : St} : ∀ (d : Nat) (t v : T) (S : List Nat), frz σ d t = some (v, S) → frz σ' d v = some (v, [])
 | 0, t, v, S, h => by
  cases t <;> simp [frz] at h <;> (obtain ⟨rfl, _⟩ := h) <;> simp [frz]
 | d + 1, t, v, S, h => by
  cases t with
  | ref b e off n =>
   simp only [frz] at h
   obtain ⟨B, hb, h1⟩ := Option.bind_eq_some_iff.1 h
   split at h1
   ·obtain ⟨⟨cs, S1⟩, h2, h3⟩ := Option.map_eq_some_iff.1 h1
    injection h3 with h3 h4; subst h3
    simp [frz]
   ·cases h1
  | agg cs =>
   simp only [frz] at h
   obtain ⟨⟨cs', S1⟩, h2, h3⟩ := Option.map_eq_some_iff.1 h
   injection h3 with h3 h4; subst h3
   simp only [frz, f3_ (fun t v S hh => hS_ d t v S hh) h2, Option.map_some]
  | tup cs =>
   simp only [frz] at h
   obtain ⟨⟨cs', S1⟩, h2, h3⟩ := Option.map_eq_some_iff.1 h
   injection h3 with h3 h4; subst h3
   simp only [frz, f3_ (fun t v S hh => hS_ d t v S hh) h2, Option.map_some]
  | _ => simp [frz] at h; obtain ⟨rfl, _⟩ := h; simp [frz]
section
variable {P : Program} {vm : Nat → Md} {X : Ext}
theorem qD_ {D f : Nat} {args args' : List T} {S : List Nat} {σ : St} (hv : vm f = .view) (ha : frzL (frz σ D) args = some (args', S)) {r : T} (hl : leafT r = true) {σ' : St} (h : run P vm X f args' (σ.mark S) = some (r, σ')) :
  run P vm X f args σ = some (r, σ) := by
 have h1 := dJ_.1 h
 cases h1 with
 | raw k0 => rw [hv] at k0; cases k0
 | own k0 => rw [hv] at k0; cases k0
 | view k0 k1 k2 k3 k4 k5 =>
  have hid := f3_ (g := frz (σ.mark S) D) (fun t v S' hh => hS_ D t v S' hh) ha
  have k1 := dC_ hid k1; injection k1 with a b; subst a; subst b
  rw [eG_] at k2 k5
  have := EvP.view hv ha k2 k3 k4 (fun i hi => k5 i hi)
  rw [if_pos hl] at this
  exact dJ_.2 this
theorem iH_ {D f : Nat} {args args' : List T} {S : List Nat} {σ : St} (hv : vm f = .own) (ha : frzL (frz σ D) args = some (args', S)) {r : T} {σ' : St} (h : run P vm X f args' (σ.mark S) = some (r, σ')) :
  run P vm X f args σ = some (r, ⟨σ'.next, fun i => if i < σ.next then σ.blk i else σ'.blk i⟩) := by
 have h1 := dJ_.1 h
 cases h1 with
 | raw k0 => rw [hv] at k0; cases k0
 | view k0 => rw [hv] at k0; cases k0
 | own k0 k1 k2 k3 k4 k5 =>
  rename_i S' σ2 v K a
  have hid := f3_ (g := frz (σ.mark S) D) (fun t v S' hh => hS_ D t v S' hh) ha
  have k1 := dC_ hid k1; injection k1 with a b; subst a; subst b
  rw [eG_] at k2 k5
  have := dJ_.2 (EvP.own hv ha k2 k3 k4 (fun i hi => k5 i hi))
  rw [this]
  congr 2
  simp only [St.keep, St.mark, St.mk.injEq, true_and]
  funext i
  by_cases hi : i < σ.next <;> simp [hi]
end
end Go.Am
end
section
set_option linter.unusedVariables false
set_option linter.unusedSimpArgs false
namespace Go.Am
open Classical Go.RowKit
@[simp] theorem ty_ (σ : St) : σ.nid none = σ.next := rfl
@[simp] theorem rH_ (σ : St) (i : Nat) : σ.nid (some i) = i := rfl
@[simp] theorem tR_ (σ : St) : σ.okK none = true := rfl
@[simp] theorem sA_ (σ : St) (B : Blk) : (σ.pushK none B).next = σ.next + 1 := rfl
@[simp] theorem ru_ (σ : St) (k : Nat) (B : Blk) : (σ.pushK (some k) B).next = σ.next := rfl
theorem jK_ (σ : St) (B : Blk) (i : Nat) : (σ.pushK none B).blk i = if i = σ.next then some B else σ.blk i := rfl
@[simp] theorem gE_ (σ : St) (B : Blk) : (σ.pushK none B).blk σ.next = some B := by simp [jK_]
@[simp] theorem t2_ (σ : St) (b : Nat) (B : Blk) : (σ.set b B).next = σ.next := rfl
theorem ct_ (σ : St) (b : Nat) (B : Blk) (i : Nat) : (σ.set b B).blk i = if i = b then some B else σ.blk i := rfl
@[simp] theorem bO_ (σ : St) (b : Nat) (B : Blk) : (σ.set b B).blk b = some B := by simp [ct_]
@[simp] theorem k4_ (σ : St) (n : Nat) : (σ.bump n).next = σ.next + n := rfl
@[simp] theorem j5_ (σ : St) (n i : Nat) : (σ.bump n).blk i = if i < σ.next then σ.blk i else none := rfl
@[simp] theorem k1_ (σ : St) (S : List Nat) : (σ.mark S).next = σ.next := rfl
section
variable (P : Program) (O : aM_)
@[simp] theorem rl_ (Q : aN_ → Fr → Prop) (fr : Fr) : codeQ P O .skip Q fr = Q .normal fr := (rfl)
@[simp] theorem pT_ (id : Nat) (ops : Array Oper) (Q : aN_ → Fr → Prop) (fr : Fr) : codeQ P O (.region id ops false) Q fr = opsQ P O ops ops.toList (Q .normal) fr := (rfl)
@[simp] theorem rq_ (id : Nat) (ops : Array Oper) (Q : aN_ → Fr → Prop) (fr : Fr) : codeQ P O (.region id ops true) Q fr = oJ_ P O ops (Q .normal) fr := (rfl)
@[simp] theorem rD_ (a b : Code) (Q : aN_ → Fr → Prop) (fr : Fr) : codeQ P O (.seq a b) Q fr = codeQ P O a (seqQ (codeQ P O b Q) Q) fr := (rfl)
@[simp] theorem rf_ (c : Operand) (a b : Code) (Q : aN_ → Fr → Prop) (fr : Fr) : codeQ P O (.cond c a b) Q fr = nv_ (codeQ P O a Q) (codeQ P O b Q) fr (evalO fr.s c) := (rfl)
@[simp] theorem qy_ (id : Nat) (c : Code) (Q : aN_ → Fr → Prop) (fr : Fr) : codeQ P O (.block id c) Q fr = codeQ P O c (blkQ id Q) fr := (rfl)
@[simp] theorem rg_ (c : Code) (Q : aN_ → Fr → Prop) (fr : Fr) : codeQ P O (.loop c) Q fr = pb_ (ed_ P O c) Q fr := (rfl)
@[simp] theorem rt_ (id : Nat) (Q : aN_ → Fr → Prop) (fr : Fr) : codeQ P O (.exit id) Q fr = Q (.exit id) fr := (rfl)
@[simp] theorem sJ_ (Q : aN_ → Fr → Prop) (fr : Fr) : codeQ P O .ret Q fr = Q .ret fr := (rfl)
@[simp] theorem p9_ (K : Fr → Prop) (Q : aN_ → Fr → Prop) (fr : Fr) : seqQ K Q .normal fr = K fr := (rfl)
@[simp] theorem sB_ (K : Fr → Prop) (Q : aN_ → Fr → Prop) (i : Nat) (fr : Fr) : seqQ K Q (.exit i) fr = Q (.exit i) fr := (rfl)
@[simp] theorem tF_ (K : Fr → Prop) (Q : aN_ → Fr → Prop) (fr : Fr) : seqQ K Q .ret fr = Q .ret fr := (rfl)
@[simp] theorem qS_ (id : Nat) (Q : aN_ → Fr → Prop) (fr : Fr) : blkQ id Q .normal fr = Q .normal fr := (rfl)
@[simp] theorem sY_ (id i : Nat) (Q : aN_ → Fr → Prop) (fr : Fr) : blkQ id Q (.exit i) fr = Q (if i = id then .normal else .exit i) fr := (rfl)
@[simp] theorem tN_ (id : Nat) (Q : aN_ → Fr → Prop) (fr : Fr) : blkQ id Q .ret fr = Q .ret fr := (rfl)
@[simp] theorem rp_ (K1 K2 : Fr → Prop) (fr : Fr) (b : Bool) : nv_ K1 K2 fr (some (.bool b)) = ((b = true → K1 fr) ∧ (b = false → K2 fr)) := (rfl)
@[simp] theorem tU_ (ops : Array Oper) (K : Fr → Prop) (fr : Fr) : opsQ P O ops [] K fr = K fr := (rfl)
@[simp] theorem te_ (ops : Array Oper) (o : Oper) (l : List Oper) (K : Fr → Prop) (fr : Fr) : opsQ P O ops (o :: l) K fr = opQ P O ops none o (opsQ P O ops l K) fr := (rfl)
def goQ (K : Fr → Prop) (fr : Fr) (d : Option Nat) (r : Option ARes) : Bool → Prop
 | true => resQ O K fr d r
 | false => K (fr.put d (.tup []) fr.σ)
@[simp] theorem t0_ (K : Fr → Prop) (fr : Fr) (d : Option Nat) (r : Option ARes) : goQ O K fr d r true = resQ O K fr d r := (rfl)
@[simp] theorem sG_ (K : Fr → Prop) (fr : Fr) (d : Option Nat) (r : Option ARes) : goQ O K fr d r false = K (fr.put d (.tup []) fr.σ) := (rfl)
@[simp] theorem vh_ (ops : Array Oper) (k : Option Nat) (o : Oper) (K : Fr → Prop) (fr : Fr) : opQ P O ops k o K fr = goQ O K fr o.dst (aOp P k fr o) (wantedA ops o fr.s) := by
 unfold opQ; cases wantedA ops o fr.s <;> rfl
@[simp] theorem tS_ (K : Fr → Prop) (fr : Fr) (d : Option Nat) (v : T) (σ : St) : resQ O K fr d (some (.val v σ)) = K (fr.put d v σ) := (rfl)
@[simp] theorem tu_ (K : Fr → Prop) (fr : Fr) (d : Option Nat) (σ : St) : resQ O K fr d (some (.skip σ)) = K (fr.put d (.tup []) σ) := (rfl)
@[simp] theorem sK_ (K : Fr → Prop) (fr : Fr) (d : Option Nat) (f : FuncId) (args : List T) : resQ O K fr d (some (.call f args)) = ∃ r σ, O f args fr.σ = some (r, σ) ∧ K (fr.put d r σ) := (rfl)
@[simp] theorem sU_ (K : Fr → Prop) (fr : Fr) (d : Option Nat) : resQ O K fr d none = False := (rfl)
@[simp] theorem tZ_ (ops : Array Oper) (b i : Nat) (K : Fr → Prop) (fr : Fr) : opsD P O ops b i [] K fr = K fr := (rfl)
@[simp] theorem sV_ (ops : Array Oper) (b i : Nat) (o : Oper) (l : List Oper) (K : Fr → Prop) (fr : Fr) : opsD P O ops b i (o :: l) K fr = opD P O ops (b + i) o (opsD P O ops b (i + 1) l K) fr := (rfl)
def goD (K : Fr → Prop) (fr : Fr) (d : Option Nat) (r : Option ARes) : Bool → Prop
 | true => resD O K fr d r
 | false => K (fr.put d (.tup []) fr.σ)
@[simp] theorem t1_ (K : Fr → Prop) (fr : Fr) (d : Option Nat) (r : Option ARes) : goD O K fr d r true = resD O K fr d r := (rfl)
@[simp] theorem tx_ (K : Fr → Prop) (fr : Fr) (d : Option Nat) (r : Option ARes) : goD O K fr d r false = K (fr.put d (.tup []) fr.σ) := (rfl)
@[simp] theorem vl_ (ops : Array Oper) (k : Nat) (o : Oper) (K : Fr → Prop) (fr : Fr) : opD P O ops k o K fr = goD O K fr o.dst (aOp P (some k) fr o) (wantedA ops o fr.s) := by
 unfold opD; cases wantedA ops o fr.s <;> rfl
@[simp] theorem tC_ (K : Fr → Prop) (fr : Fr) (d : Option Nat) (v : T) (σ : St) : resD O K fr d (some (.val v σ)) = (σ = fr.σ ∧ K (fr.put d v fr.σ)) := (rfl)
@[simp] theorem r2_ (K : Fr → Prop) (fr : Fr) (d : Option Nat) (σ : St) : resD O K fr d (some (.skip σ)) = (σ = fr.σ ∧ K (fr.put d (.tup []) fr.σ)) := (rfl)
@[simp] theorem rR_ (K : Fr → Prop) (fr : Fr) (d : Option Nat) (f : FuncId) (args : List T) : resD O K fr d (some (.call f args)) = ∃ r, O f args fr.σ = some (r, fr.σ) ∧ K (fr.put d r fr.σ) := (rfl)
@[simp] theorem tf_ (K : Fr → Prop) (fr : Fr) (d : Option Nat) : resD O K fr d none = False := (rfl)
@[simp] theorem vz_ (fr : Fr) (d : Nat) (v : T) (σ : St) (j : Nat) : (fr.put (some d) v σ).s j = if j = d then v else fr.s j := (rfl)
@[simp] theorem uU_ (fr : Fr) (v : T) (σ : St) : (fr.put none v σ).s = fr.s := (rfl)
@[simp] theorem put_σ (fr : Fr) (d : Option Nat) (v : T) (σ : St) : (fr.put d v σ).σ = σ := by cases d <;> rfl
@[simp] theorem rF_ (s : Nat → T) (t : Nat) : evalO s (.tmp t) = some (s t) := (rfl)
@[simp] theorem qk_ (s : Nat → T) (v : Value) : evalO s (.const v) = T.ofV' v := (rfl)
@[simp] theorem rj_ (s : Nat → T) (f : Nat) : evalO s (.func f) = some (.fn f [] []) := (rfl)
@[simp] theorem r7_ (s : Nat → T) : bA_ s [] = some [] := (rfl)
@[simp] theorem rm_ (s : Nat → T) (x : Operand) (xs : List Operand) : bA_ s (x :: xs) = (evalO s x).bind fun v => (bA_ s xs).map (v :: ·) := (rfl)
@[simp] theorem rn_ (s : Nat → T) : dh_ s [] = some [] := (rfl)
@[simp] theorem qh_ (s : Nat → T) (i : Nat) (x : Operand) (xs : List (Nat × Operand)) : dh_ s ((i, x) :: xs) = (evalO s x).bind fun v => (dh_ s xs).map ((i, v) :: ·) := (rfl)
@[simp] theorem tQ_ (k : IntKind) (n : Int) : T.ofV' (.int k n) = some (.int k n) := (rfl)
@[simp] theorem r9_ (b : Bool) : T.ofV' (.bool b) = some (.bool b) := (rfl)
@[simp] theorem q8_ (s : ByteArray) : T.ofV' (.string s) = some (.str s) := (rfl)
@[simp] theorem ofV'_nilp : T.ofV' (.pointer none) = some .nilp := (rfl)
@[simp] theorem ofV'_nilf : T.ofV' .nilFunc = some .nilf := (rfl)
@[simp] theorem ofV'_nils : T.ofV' (.slice none 0 0) = some (.row true 0 []) := (rfl)
@[simp] theorem rM_ (args : List T) (j : Nat) : enterS args j = args.getD j (.tup []) := (rfl)
end
@[simp] theorem vq_ (n : Nat) : n + 1 + 1 = n + 2 := rfl
@[simp] theorem vr_ (n : Nat) : n + 2 + 1 = n + 3 := rfl
@[simp] theorem vv_ (n : Nat) : n + 3 + 1 = n + 4 := rfl
@[simp] theorem vx_ (n : Nat) : n + 4 + 1 = n + 5 := rfl
@[simp] theorem vo_ (n : Nat) : n + 5 + 1 = n + 6 := rfl
@[simp] theorem vs_ (n : Nat) : n + 6 + 1 = n + 7 := rfl
@[simp] theorem vA_ (n : Nat) : n + 7 + 1 = n + 8 := rfl
@[simp] theorem vp_ (n : Nat) : n + 8 + 1 = n + 9 := rfl
@[simp] theorem vw_ (n : Nat) : n + 9 + 1 = n + 10 := rfl
@[simp] theorem vd_ (n : Nat) : n + 10 + 1 = n + 11 := rfl
@[simp] theorem u2_ (n : Nat) : n + 11 + 1 = n + 12 := rfl
@[simp] theorem uV_ (n : Nat) : n + 12 + 1 = n + 13 := rfl
@[simp] theorem vm_ (n : Nat) : n + 13 + 1 = n + 14 := rfl
@[simp] theorem uY_ (n : Nat) : n + 14 + 1 = n + 15 := rfl
@[simp] theorem u3_ (n : Nat) : n + 15 + 1 = n + 16 := rfl
@[simp] theorem vk_ (n : Nat) : n + 16 + 1 = n + 17 := rfl
@[simp] theorem uZ_ (n : Nat) : n + 17 + 1 = n + 18 := rfl
@[simp] theorem vn_ (n : Nat) : n + 18 + 1 = n + 19 := rfl
@[simp] theorem u8_ (n : Nat) : n + 19 + 1 = n + 20 := rfl
@[simp] theorem vf_ (n : Nat) : n + 20 + 1 = n + 21 := rfl
@[simp] theorem u6_ (n : Nat) : n + 21 + 1 = n + 22 := rfl
@[simp] theorem uT_ (n : Nat) : n + 22 + 1 = n + 23 := rfl
@[simp] theorem uS_ (n : Nat) : n + 23 + 1 = n + 24 := rfl
structure Grow (σ σ' : St) : Prop where
 nx : σ.next ≤ σ'.next
 old : ∀ i, i < σ.next → σ'.blk i = σ.blk i
theorem Grow.refl (σ : St) : Grow σ σ := ⟨Nat.le_refl _, fun _ _ => rfl⟩
theorem Grow.push {σ σ1 : St} (h : Grow σ σ1) (B : Blk) : Grow σ (σ1.pushK none B) := ⟨Nat.le_trans h.nx (by simp), fun i hi => by rw [jK_, if_neg (by have := h.nx; omega), h.old i hi]⟩
@[simp] theorem sE_ (σ : St) (B : Blk) : Grow σ (σ.pushK none B) := (Grow.refl σ).push B
theorem Grow.keep {σ σ2 : St} (h : σ.next ≤ σ2.next) (K : List Nat) : Grow σ (σ.keep σ2 K) := ⟨h, fun i hi => by simp [St.keep, hi]⟩
section
variable {P : Program} {vm : Nat → Md} {X : Ext}
def nn_ (σ0 : St) (r' : T) (fr : Fr) : Option (T × List Nat) → Prop
 | some (v, S) => v = r' ∧ pureT r' = true ∧ Grow σ0 fr.σ ∧ ∀ b ∈ S, σ0.next ≤ b
 | none => False
def endV (P : Program) (rs : List ResultVar) (σ0 : St) (r' : T) : aN_ → Fr → Prop
 | .exit _, _ => False
 | .normal, fr => nn_ σ0 r' fr ((resL P fr rs).bind fun l => frz fr.σ 4194304 (tupOf l))
 | .ret, fr => nn_ σ0 r' fr ((resL P fr rs).bind fun l => frz fr.σ 4194304 (tupOf l))
theorem mF_ {S : List Nat} {n : Nat} (h : ∀ b ∈ S, n ≤ b) : (S.filter fun i => decide (i < n)) = [] := by
 rw [List.filter_eq_nil_iff]
 intro a ha
 have := h a ha
 simp; omega
def nK_ (σ0 : St) (K : T → Prop) (fr : Fr) : Option (T × List Nat) → Prop
 | some (v, S) => pureT v = true ∧ Grow σ0 fr.σ ∧ (∀ b ∈ S, σ0.next ≤ b) ∧ K v
 | none => False
def endK (P : Program) (rs : List ResultVar) (σ0 : St) (K : T → Prop) : aN_ → Fr → Prop
 | .exit _, _ => False
 | .normal, fr => nK_ σ0 K fr ((resL P fr rs).bind fun l => frz fr.σ 4194304 (tupOf l))
 | .ret, fr => nK_ σ0 K fr ((resL P fr rs).bind fun l => frz fr.σ 4194304 (tupOf l))
def nU_ (σ0 : St) (r' : T) (fr : Fr) : Option (T × List Nat) → Prop
 | some (v, S) => v = r' ∧ (∀ b ∈ S, σ0.next ≤ b) ∧ S.Nodup ∧ Grow σ0 fr.σ
 | none => False
def endO (P : Program) (rs : List ResultVar) (σ0 : St) (k : Nat) (r' : T) : aN_ → Fr → Prop
 | .exit _, _ => False
 | .normal, fr => nU_ σ0 r' fr ((resL P fr rs).bind fun l => own fr.σ k (tupOf l))
 | .ret, fr => nU_ σ0 r' fr ((resL P fr rs).bind fun l => own fr.σ k (tupOf l))
def nu_ (K : T → St → Prop) (fr : Fr) : Option (List T) → Prop
 | some l => K (tupOf l) fr.σ
 | none => False
def endR (P : Program) (rs : List ResultVar) (K : T → St → Prop) : aN_ → Fr → Prop
 | .exit _, _ => False
 | .normal, fr => nu_ K fr (resL P fr rs)
 | .ret, fr => nu_ K fr (resL P fr rs)
end
section
variable (P : Program) (σ0 : St) (r' : T) (rs : List ResultVar) (fr : Fr)
@[simp] theorem endV_normal : endV P rs σ0 r' .normal fr = nn_ σ0 r' fr ((resL P fr rs).bind fun l => frz fr.σ 4194304 (tupOf l)) := (rfl)
@[simp] theorem endV_ret : endV P rs σ0 r' .ret fr = nn_ σ0 r' fr ((resL P fr rs).bind fun l => frz fr.σ 4194304 (tupOf l)) := (rfl)
@[simp] theorem qt_ (K : T → Prop) : endK P rs σ0 K .normal fr = nK_ σ0 K fr ((resL P fr rs).bind fun l => frz fr.σ 4194304 (tupOf l)) := (rfl)
@[simp] theorem tK_ (K : T → Prop) : endK P rs σ0 K .ret fr = nK_ σ0 K fr ((resL P fr rs).bind fun l => frz fr.σ 4194304 (tupOf l)) := (rfl)
@[simp] theorem rs_ (K : T → Prop) (v : T) (S : List Nat) : nK_ σ0 K fr (some (v, S)) = (pureT v = true ∧ Grow σ0 fr.σ ∧ (∀ b ∈ S, σ0.next ≤ b) ∧ K v) := (rfl)
@[simp] theorem qA_ (k : Nat) : endO P rs σ0 k r' .normal fr = nU_ σ0 r' fr ((resL P fr rs).bind fun l => own fr.σ k (tupOf l)) := (rfl)
@[simp] theorem tD_ (k : Nat) : endO P rs σ0 k r' .ret fr = nU_ σ0 r' fr ((resL P fr rs).bind fun l => own fr.σ k (tupOf l)) := (rfl)
@[simp] theorem qb_ (K : T → St → Prop) : endR P rs K .normal fr = nu_ K fr (resL P fr rs) := (rfl)
@[simp] theorem tB_ (K : T → St → Prop) : endR P rs K .ret fr = nu_ K fr (resL P fr rs) := (rfl)
@[simp] theorem re_ (v : T) (S : List Nat) : nn_ σ0 r' fr (some (v, S)) = (v = r' ∧ pureT r' = true ∧ Grow σ0 fr.σ ∧ ∀ b ∈ S, σ0.next ≤ b) := (rfl)
@[simp] theorem ro_ (v : T) (S : List Nat) : nU_ σ0 r' fr (some (v, S)) = (v = r' ∧ (∀ b ∈ S, σ0.next ≤ b) ∧ S.Nodup ∧ Grow σ0 fr.σ) := (rfl)
@[simp] theorem rk_ (K : T → St → Prop) (l : List T) : nu_ K fr (some l) = K (tupOf l) fr.σ := (rfl)
@[simp] theorem resL_nil : resL P fr [] = some [] := (rfl)
@[simp] theorem r6_ (r : ResultVar) (l : List ResultVar) : resL P fr (r :: l) = (resV P fr r).bind fun v => (resL P fr l).map (v :: ·) := (rfl)
@[simp] theorem tA_ (t : Nat) : resV P fr (.tmp t) = some (fr.s t) := (rfl)
@[simp] theorem rK_ (a : Nat) (t : TypeId) : resV P fr (.cell a t) = h2_ P fr.σ t (fr.s a) := (rfl)
@[simp] theorem sq_ (v : T) : tupOf [v] = v := (rfl)
@[simp] theorem tupOf_nil : tupOf [] = .tup [] := (rfl)
@[simp] theorem ry_ (u v : T) (l : List T) : tupOf (u :: v :: l) = .tup (u :: v :: l) := (rfl)
@[simp] theorem sm_ (σ : St) : Grow σ σ := .refl σ
end
end Go.Am
end
section
set_option linter.unusedVariables false
set_option linter.unusedSimpArgs false
namespace Go.Am
open Classical
theorem hN_ {σ : St} {x b : Nat} {B Bk : Blk} (hx : σ.blk x = none) (h : σ.blk b = some Bk) : (σ.set x B).blk b = some Bk := by
 rw [ct_, if_neg (fun e => by subst e; rw [hx] at h; cases h), h]
theorem oY_ {σ : St} {x b : Nat} {B C : Blk} (h : b ≠ x) : (σ.set x B).set b C = (σ.set b C).set x B := by
 simp only [St.set, St.mk.injEq, true_and]
 funext i
 by_cases h1 : i = b
 ·subst h1; simp [h]
 ·simp [h1]
theorem gw_ {σ : St} {x : Nat} {B : Blk} {k : Option Nat} (hk : k ≠ some x) : (σ.set x B).okK k = σ.okK k := by
 cases k with
 | none => rfl
 | some i => simp only [St.okK, St.set]; rw [if_neg (fun e => hk (by rw [e]))]; rfl
theorem ha_ {σ : St} {x : Nat} {B : Blk} {k : Option Nat} : (σ.set x B).nid k = σ.nid k := rfl
theorem pI_ {σ : St} {x : Nat} {k : Option Nat} (hk : k ≠ some x) (hl : x < σ.next) : σ.nid k ≠ x := by
 cases k with
 | none => simp [St.nid]; omega
 | some i => simp only [St.nid, Option.getD_some]; exact fun e => hk (by rw [e])
theorem St.ext' {a b : St} (h1 : a.next = b.next) (h2 : ∀ i, a.blk i = b.blk i) : a = b := by
 obtain ⟨n, f⟩ := a; obtain ⟨m, g⟩ := b
 simp only at h1 h2
 rw [h1, funext h2]
theorem ns_ {σ : St} {x : Nat} {B C : Blk} {k : Option Nat} (hk : k ≠ some x) (hl : x < σ.next) : (σ.set x B).pushK k C = (σ.pushK k C).set x B := by
 have hn := pI_ hk hl
 refine St.ext' (by cases k <;> rfl) fun i => ?_
 show (if i = σ.nid k then some C else if i = x then some B else σ.blk i) = (if i = x then some B else if i = σ.nid k then some C else σ.blk i)
 by_cases h1 : i = x
 ·rw [if_neg (fun e => hn (by rw [← e, h1])), if_pos h1, if_pos h1]
 ·rw [if_neg h1, if_neg h1]
def Fm {α : Type} (g : α → α → Prop) (o o' : Option α) : Prop := ∀ a, o = some a → ∃ a', o' = some a' ∧ g a a'
section
variable {α β : Type} {g : α → α → Prop} {g1 : β → β → Prop}
theorem aI_ {o' : Option α} : Fm g none o' := fun _ h => by cases h
theorem dQ_ {a a' : α} (h : g a a') : Fm g (some a) (some a') := fun _ e => by cases e; exact ⟨a', rfl, h⟩
theorem aD_ {o : Option β} {k k' : β → Option α} (h : ∀ y, Fm g (k y) (k' y)) : Fm g (o.bind k) (o.bind k') := fun a e => by
 obtain ⟨y, h1, h2⟩ := Option.bind_eq_some_iff.1 e
 obtain ⟨a', h3, h4⟩ := h y a h2
 exact ⟨a', by rw [h1]; exact h3, h4⟩
theorem j8_ {o o' : Option β} (ho : Fm Eq o o') {k k' : β → Option α} (h : ∀ y, Fm g (k y) (k' y)) : Fm g (o.bind k) (o'.bind k') := fun a e => by
 obtain ⟨y, h1, h2⟩ := Option.bind_eq_some_iff.1 e
 obtain ⟨y', h5, rfl⟩ := ho y h1
 obtain ⟨a', h3, h4⟩ := h y a h2
 exact ⟨a', by rw [h5]; exact h3, h4⟩
theorem pW_ {o : Option β} {f f' : β → α} (h : ∀ y, g (f y) (f' y)) : Fm g (o.map f) (o.map f') := fun a e => by
 obtain ⟨y, h1, rfl⟩ := Option.map_eq_some_iff.1 e
 exact ⟨f' y, by rw [h1]; rfl, h y⟩
theorem jx_ {o o' : Option β} (ho : Fm g1 o o') {f f' : β → α} (h : ∀ y y', g1 y y' → g (f y) (f' y')) : Fm g (o.map f) (o'.map f') := fun a e => by
 obtain ⟨y, h1, rfl⟩ := Option.map_eq_some_iff.1 e
 obtain ⟨y', h5, h6⟩ := ho y h1
 exact ⟨f' y', by rw [h5]; rfl, h y y' h6⟩
theorem bv_ {c : Prop} [Decidable c] {a b a' b' : Option α} (h1 : c → Fm g a a') (h2 : ¬c → Fm g b b') : Fm g (if c then a else b) (if c then a' else b') := by
 by_cases h : c
 ·rw [if_pos h, if_pos h]; exact h1 h
 ·rw [if_neg h, if_neg h]; exact h2 h
theorem bJ_ {o : Option α} : Fm Eq o o := fun a h => ⟨a, h, rfl⟩
end
section
variable {P : Program} {σ : St} {x : Nat} {B : Blk} (hx : σ.blk x = none) (hl : x < σ.next)
include hx
theorem i5_ {α : Type} {g : α → α → Prop} {b : Nat} {k k' : Blk → Option α} (h : ∀ C, b ≠ x → σ.blk b = some C → Fm g (k C) (k' C)) : Fm g ((σ.blk b).bind k) (((σ.set x B).blk b).bind k') := fun a e => by
 obtain ⟨C, h1, h2⟩ := Option.bind_eq_some_iff.1 e
 obtain ⟨a', h3, h4⟩ := h C (fun e => by subst e; rw [hx] at h1; cases h1) h1 a h2
 exact ⟨a', by rw [hN_ hx h1]; exact h3, h4⟩
theorem i2_ {t : T} : Fm Eq (cellsOf σ t) (cellsOf (σ.set x B) t) := by
 cases t with
 | ref b e off n => exact i5_ hx fun C _ _ => bJ_
 | _ => exact bJ_
theorem l3_ {ty : TypeId} {t : T} : Fm Eq (h2_ P σ ty t) (h2_ P (σ.set x B) ty t) := by
 cases t with
 | ptr b e off n => exact i5_ hx fun C _ _ => bJ_
 | _ => exact bJ_
theorem pe_ {sz : Nat} {t : T} : Fm Eq (ep_ σ sz t) (ep_ (σ.set x B) sz t) := by
 cases t with
 | ref b e off n => show Fm Eq ((cellsOf σ _).bind _) ((cellsOf (σ.set x B) _).bind _); exact j8_ (i2_ hx) fun y => bJ_
 | _ => exact bJ_
theorem oG_ {t : T} (h : keyA σ t = true) : keyA (σ.set x B) t = true := by
 cases t with
 | ptr b e off m =>
  simp only [keyA] at h ⊢
  cases hb : σ.blk b with
  | none => rw [hb] at h; cases h
  | some C => rw [hN_ hx hb]; rw [hb] at h; exact h
 | vw cs => cases cs <;> exact h
 | _ => exact h
theorem lf_ {ty : TypeId} {t i : T} : Fm Eq (eM_ P σ ty t i) (eM_ P (σ.set x B) ty t i) := by
 cases i with
 | int k j =>
  refine aD_ fun e => aD_ fun sz => ?_
  cases t with
  | ref b e off n => exact i5_ hx fun C _ _ => bJ_
  | _ => exact bJ_
 | _ => exact bJ_
theorem nV_ {ty : TypeId} {t : T} {lo hi mx : Option T} : Fm Eq (fL_ P σ ty t lo hi mx) (fL_ P (σ.set x B) ty t lo hi mx) := by
 cases t with
 | ref b e off n => exact aD_ fun e => aD_ fun sz => i5_ hx fun C _ _ => bJ_
 | _ => exact bJ_
def Sx (x : Nat) (B : Blk) (σ σ' : St) : Prop := σ' = σ.set x B ∧ σ.blk x = none ∧ x < σ.next
include hl
theorem sx_refl : Sx x B σ (σ.set x B) := ⟨rfl, hx, hl⟩
theorem in_ {k : Option Nat} (hk : k ≠ some x) {C : Blk} : Sx x B (σ.pushK k C) ((σ.set x B).pushK k C) := ⟨ns_ hk hl, by
 simp only [St.pushK]; rw [if_neg (fun e => pI_ hk hl e.symm), hx], by cases k <;> simp [St.pushK] <;> omega⟩
theorem na_ {b : Nat} (hb : b ≠ x) {C : Blk} : Sx x B (σ.set b C) ((σ.set x B).set b C) := ⟨oY_ hb, by rw [ct_, if_neg (fun e => hb e.symm), hx], hl⟩
theorem nJ_ {ty : TypeId} {p v : T} : Fm (Sx x B) (il_ P σ ty p v) (il_ P (σ.set x B) ty p v) := by
 cases p with
 | ptr b e off n => exact i5_ hx fun C hb _ => aD_ fun m => bv_ (fun _ => dQ_ (na_ hx hl hb)) (fun _ => aI_)
 | _ => exact aI_
theorem pv_ {k : Option Nat} (hk : k ≠ some x) {src dst : TypeId} {t : T} : Fm (fun p q => q.1 = p.1 ∧ Sx x B p.2 q.2) (iM_ P k σ src dst t) (iM_ P k (σ.set x B) src dst t) := by
 unfold iM_
 cases t with
 | int kk n => 
  refine bv_ (fun _ => ?_) (fun _ => aI_)
  split
  ·exact dQ_ ⟨rfl, sx_refl hx hl⟩
  ·exact aI_
 | str s =>
  refine bv_ (fun _ => bv_ (fun _ => dQ_ ⟨rfl, sx_refl hx hl⟩) (fun _ => aD_ fun e => ?_)) (fun _ => aI_)
  rw [gw_ hk]
  exact bv_ (fun _ => dQ_ ⟨rfl, in_ hx hl hk⟩) (fun _ => aI_)
 | _ => exact bv_ (fun _ => aD_ fun e => bv_ (fun _ => j8_ (i2_ hx) fun y => bv_ (fun _ => pW_ fun y => ⟨rfl, sx_refl hx hl⟩) (fun _ => aI_)) (fun _ => aI_)) (fun _ => aI_)
theorem qV_ {k : Option Nat} (hk : k ≠ some x) {sz by_ : Nat} {z0 : List T} {s u : T} : Fm (fun p q => q.1 = p.1 ∧ Sx x B p.2 q.2) (appZ k σ sz by_ z0 s u) (appZ k (σ.set x B) sz by_ z0 s u) := by
 unfold appZ
 simp only [gw_ hk, ha_]
 split
 ·exact bv_ (fun _ => dQ_ ⟨rfl, in_ hx hl hk⟩) (fun _ => aI_)
 ·exact aI_
theorem mG_ {k : Option Nat} (hk : k ≠ some x) {t t2 : TypeId} {u v : T} : Fm (fun p q => q.1 = p.1 ∧ Sx x B p.2 q.2) (a7_ P k σ t t2 u v) (a7_ P k (σ.set x B) t t2 u v) := by
 unfold a7_
 refine aD_ fun e => aD_ fun sz => aD_ fun by_ => aD_ fun z0 => bv_ (fun _ => bv_ (fun _ => aI_) fun _ => qV_ hx hl hk) fun _ => bv_ (fun _ => aI_) fun _ => j8_ (pe_ hx) fun y => ?_
 refine bv_ (fun _ => aI_) fun _ => ?_
 simp only [gw_ hk, ha_]
 have push : ∀ {C : Blk} {v : T}, Fm (fun p q => q.1 = p.1 ∧ Sx x B p.2 q.2) (some (v, σ.pushK k C)) (some (v, (σ.set x B).pushK k C)) := fun {C v} => dQ_ ⟨rfl, in_ hx hl hk⟩
 have same : ∀ {v : T}, Fm (fun p q => q.1 = p.1 ∧ Sx x B p.2 q.2) (some (v, σ)) (some (v, σ.set x B)) := fun {v} => dQ_ ⟨rfl, sx_refl hx hl⟩
 cases u with
 | emp => exact bv_ (fun _ => same) fun _ => bv_ (fun _ => push) fun _ => aI_
 | row z n cs =>
  cases z with
  | false => exact bv_ (fun _ => same) fun _ => aI_
  | true =>
   cases n with
   | zero => cases cs with
    | nil => exact bv_ (fun _ => same) fun _ => bv_ (fun _ => push) fun _ => aI_
    | cons _ _ => exact aI_
   | succ n => exact aI_
 | ref b ep off n => exact i5_ hx fun C hb _ => bv_ (fun _ => bv_ (fun _ => same) fun _ => aI_) fun _ => bv_ (fun _ => dQ_ ⟨rfl, na_ hx hl hb⟩) fun _ => bv_ (fun _ => dQ_ ⟨rfl, na_ hx hl hb⟩) fun _ => aI_
 | _ => exact aI_
def ARes.Sx (x : Nat) (B : Blk) : ARes → ARes → Prop
 | .val v σ, .val v' σ' => v' = v ∧ Go.Am.Sx x B σ σ'
 | .skip σ, .skip σ' => Go.Am.Sx x B σ σ'
 | .call f as, .call f' as' => f' = f ∧ as' = as
 | _, _ => False
theorem oH_ {k : Option Nat} (hk : k ≠ some x) {s : Nat → T} {o : Oper} : Fm (ARes.Sx x B) (aOp P k ⟨s, σ⟩ o) (aOp P k ⟨s, σ.set x B⟩ o) := by
 obtain ⟨d, op, ty, ps, af, g⟩ := o
 have V : ∀ {o o' : Option T}, Fm Eq o o' → Fm (ARes.Sx x B) (o.map fun y => .val y σ) (o'.map fun y => .val y (σ.set x B)) := fun h => jx_ h fun y y' e => by subst e; exact ⟨rfl, sx_refl hx hl⟩
 have same : ∀ {v : T}, Fm (ARes.Sx x B) (some (.val v σ)) (some (.val v (σ.set x B))) := fun {v} => dQ_ ⟨rfl, sx_refl hx hl⟩
 have push : ∀ {C : Blk} {v : T}, Fm (ARes.Sx x B) (some (.val v (σ.pushK k C))) (some (.val v ((σ.set x B).pushK k C))) := fun {C v} => dQ_ ⟨rfl, in_ hx hl hk⟩
 cases op with
 | move y => exact V bJ_
 | assign y => exact V bJ_
 | pick c a b =>
  refine aD_ fun y => ?_
  cases y with
  | bool v => cases v <;> exact V bJ_
  | _ => exact aI_
 | alloc t => simp only [aOp, gw_ hk, ha_]; exact aD_ fun z => bv_ (fun _ => push) fun _ => aI_
 | box t y => simp only [aOp, gw_ hk, ha_]; exact aD_ fun z => bv_ (fun _ => push) fun _ => aI_
 | build t parts => simp only [aOp]; exact aD_ fun z => aD_ fun ps => bv_ (fun _ => V bJ_) fun _ => aI_
 | buildSlice t n parts => simp only [aOp, gw_ hk, ha_]; exact aD_ fun e => aD_ fun sz => aD_ fun z => aD_ fun ps => bv_ (fun _ => pW_ fun y => ⟨rfl, in_ hx hl hk⟩) fun _ => aI_
 | load t a => simp only [aOp]; exact aD_ fun y => V (l3_ hx)
 | store t a y => simp only [aOp]; exact aD_ fun p => aD_ fun v => jx_ (nJ_ hx hl) fun y y' h => h
 | nilCheck y =>
  refine aD_ fun y => ?_
  cases y <;> first | exact same | exact aI_
 | binOp op t a b u => simp only [aOp]; exact aD_ fun a => aD_ fun b => V bJ_
 | unOp op t a => simp only [aOp]; exact aD_ fun a => V bJ_
 | convert src dst a => simp only [aOp]; exact aD_ fun a => jx_ (pv_ hx hl hk) fun y y' h => h
 | makeMap t r =>
  cases r with
  | none => simp only [aOp]; exact bv_ (fun _ => same) fun _ => aI_
  | some r => exact aI_
 | lookup t m y c =>
  cases c with
  | true => exact aI_
  | false =>
   simp only [aOp]
   refine aD_ fun m => aD_ fun y => fun a e => ?_
   split at e
   ·rename_i hc
    injection e with e; subst e
    exact ⟨_, if_pos ⟨hc.1, hc.2.1, oG_ hx hc.2.2⟩, rfl, sx_refl hx hl⟩
   ·cases e
 | mapUpdate t m y z =>
  simp only [aOp]
  refine aD_ fun m => aD_ fun y => aD_ fun z => fun a e => ?_
  split at e
  ·rename_i hc
   injection e with e; subst e
   exact ⟨_, if_pos ⟨hc.1, hc.2.1, oG_ hx hc.2.2.1, hc.2.2.2⟩, sx_refl hx hl⟩
  ·cases e
 | makeFunc f first caps =>
  cases f with
  | func f => simp only [aOp]; exact aD_ fun a => aD_ fun b => same
  | _ => exact aI_
 | makeSlice t l c =>
  simp only [aOp, gw_ hk, ha_]
  refine aD_ fun l => aD_ fun c => ?_
  split
  ·exact aD_ fun e => aD_ fun sz => aD_ fun b => aD_ fun z => bv_ (fun _ => push) fun _ => aI_
  ·exact aI_
 | slice t a lo hi mx => simp only [aOp]; exact aD_ fun a => aD_ fun lo => aD_ fun hi => aD_ fun mx => bv_ (fun _ => V (nV_ hx)) fun _ => aI_
 | fieldAddr t a f =>
  simp only [aOp]
  refine aD_ fun a => aD_ fun q => bv_ (fun _ => aI_) fun _ => ?_
  cases a with
  | ptr b e o m => exact bv_ (fun _ => same) fun _ => aI_
  | vw cs => exact bv_ (fun _ => same) fun _ => aI_
  | _ => exact aI_
 | field t a f =>
  simp only [aOp]
  refine aD_ fun a => aD_ fun q => ?_
  cases a with
  | agg cs => exact V bJ_
  | _ => exact aI_
 | indexAddr t a i => simp only [aOp]; exact aD_ fun a => aD_ fun i => V (lf_ hx)
 | index t a i => simp only [aOp]; exact aD_ fun a => aD_ fun i => V bJ_
 | extract a i =>
  refine aD_ fun y => ?_
  cases y with
  | tup cs => exact V bJ_
  | _ => exact aI_
 | call c =>
  simp only [aOp]
  refine aD_ fun args => ?_
  split
  ·refine aD_ fun y => ?_
   cases y with
   | fn f a b => exact dQ_ ⟨rfl, rfl⟩
   | _ => exact aI_
  ·split
   ·refine V ?_
    rename_i t
    rename_i y _ _ _
    cases y <;> exact bJ_
   ·exact aI_
  ·split
   ·exact V bJ_
   ·exact aI_
  ·split
   ·exact jx_ (mG_ hx hl hk) fun y y' h => h
   ·exact aI_
  ·split
   ·exact same
   ·exact aI_
  ·split
   ·exact same
   ·exact aI_
  ·exact aI_
 | _ => exact aI_
end
theorem fi_ {f g : T → Option (T × List Nat)} {x : Nat} (h : ∀ t p, f t = some p → g t = some p ∧ x ∉ p.2) : ∀ {ts : List T} {q : List T × List Nat}, frzL f ts = some q → frzL g ts = some q ∧ x ∉ q.2
 | [], q, e => by simp only [frzL] at e ⊢; injection e with e; subst e; exact ⟨rfl, by simp⟩
 | t :: ts, q, e => by
  simp only [frzL] at e ⊢
  obtain ⟨p, h1, h2⟩ := Option.bind_eq_some_iff.1 e
  obtain ⟨q', h3, rfl⟩ := Option.map_eq_some_iff.1 h2
  obtain ⟨k1, k2⟩ := h t p h1
  obtain ⟨k3, k4⟩ := fi_ h h3
  exact ⟨by rw [k1, Option.bind_some, k3]; rfl, by simp [k2, k4]⟩
theorem iD_ {σ : St} {x : Nat} {B : Blk} (hx : σ.blk x = none) : ∀ (d : Nat) (t : T) (p : T × List Nat), frz σ d t = some p → frz (σ.set x B) d t = some p ∧ x ∉ p.2
 | 0, t, p, h => by cases t <;> simp only [frz] at h ⊢ <;> first | (cases h; done) | (injection h with h; subst h; exact ⟨rfl, by simp⟩)
 | d + 1, t, p, h => by
  cases t with
  | ref b e off n =>
   simp only [frz] at h ⊢
   obtain ⟨C, h1, h2⟩ := Option.bind_eq_some_iff.1 h
   rw [hN_ hx h1, Option.bind_some]
   split at h2
   ·rename_i hc
    obtain ⟨q, h3, rfl⟩ := Option.map_eq_some_iff.1 h2
    obtain ⟨k1, k2⟩ := fi_ (iD_ hx d) h3
    rw [if_pos hc, k1]
    exact ⟨rfl, by simp only [List.mem_cons]; rintro (e | e); (subst e; rw [hx] at h1; cases h1); exact k2 e⟩
   ·cases h2
  | agg cs =>
   simp only [frz] at h ⊢
   obtain ⟨q, h3, rfl⟩ := Option.map_eq_some_iff.1 h
   obtain ⟨k1, k2⟩ := fi_ (iD_ hx d) h3
   rw [k1]; exact ⟨rfl, k2⟩
  | tup cs =>
   simp only [frz] at h ⊢
   obtain ⟨q, h3, rfl⟩ := Option.map_eq_some_iff.1 h
   obtain ⟨k1, k2⟩ := fi_ (iD_ hx d) h3
   rw [k1]; exact ⟨rfl, k2⟩
  | _ => simp only [frz] at h ⊢; injection h with h; subst h; exact ⟨rfl, by simp⟩
theorem l4_ {σ : St} {x : Nat} {B : Blk} (hx : σ.blk x = none) : ∀ (d : Nat) (t : T) (p : T × List Nat), own σ d t = some p → own (σ.set x B) d t = some p ∧ x ∉ p.2
 | 0, t, p, h => by
  cases t with
  | row z n cs => cases z <;> cases n <;> cases cs <;> simp only [own] at h ⊢ <;> first | (cases h; done) | (injection h with h; subst h; exact ⟨rfl, by simp⟩)
  | _ => simp only [own] at h ⊢ <;> first | (cases h; done) | (injection h with h; subst h; exact ⟨rfl, by simp⟩)
 | d + 1, t, p, h => by
  cases t with
  | ref b e off n =>
   simp only [own] at h ⊢
   obtain ⟨C, h1, h2⟩ := Option.bind_eq_some_iff.1 h
   rw [hN_ hx h1, Option.bind_some]
   split at h2
   ·rename_i hc
    obtain ⟨q, h3, rfl⟩ := Option.map_eq_some_iff.1 h2
    obtain ⟨k1, k2⟩ := fi_ (l4_ hx d) h3
    rw [if_pos hc, k1]
    exact ⟨rfl, by simp only [List.mem_cons]; rintro (e | e); (subst e; rw [hx] at h1; cases h1); exact k2 e⟩
   ·cases h2
  | agg cs =>
   simp only [own] at h ⊢
   obtain ⟨q, h3, rfl⟩ := Option.map_eq_some_iff.1 h
   obtain ⟨k1, k2⟩ := fi_ (l4_ hx d) h3
   rw [k1]; exact ⟨rfl, k2⟩
  | tup cs =>
   simp only [own] at h ⊢
   obtain ⟨q, h3, rfl⟩ := Option.map_eq_some_iff.1 h
   obtain ⟨k1, k2⟩ := fi_ (l4_ hx d) h3
   rw [k1]; exact ⟨rfl, k2⟩
  | row z n cs => cases z <;> cases n <;> cases cs <;> simp only [own] at h ⊢ <;> first | (cases h; done) | (injection h with h; subst h; exact ⟨rfl, by simp⟩)
  | _ => simp only [own] at h ⊢ <;> first | (cases h; done) | (injection h with h; subst h; exact ⟨rfl, by simp⟩)
theorem gc_ {σ : St} {x : Nat} {B : Blk} {S : List Nat} (h : x ∉ S) : (σ.set x B).mark S = (σ.mark S).set x B := by
 refine St.ext' rfl fun i => ?_
 show Option.map _ (if i = x then some B else σ.blk i) = if i = x then some B else Option.map _ (σ.blk i)
 by_cases e : i = x
 ·subst e; rw [if_pos rfl, if_pos rfl]; simp [h]
 ·rw [if_neg e, if_neg e]
theorem gK_ {σ : St} {x : Nat} {S : List Nat} (h : σ.blk x = none) : (σ.mark S).blk x = none := by simp [St.mark, h]
theorem oQ_ {σ : St} {x : Nat} {B : Blk} {n : Nat} (hl : x < σ.next) : (σ.set x B).bump n = (σ.bump n).set x B := by
 refine St.ext' rfl fun i => ?_
 show (if i < σ.next then (if i = x then some B else σ.blk i) else none) = if i = x then some B else (if i < σ.next then σ.blk i else none)
 by_cases e : i = x
 ·subst e; rw [if_pos hl, if_pos rfl, if_pos rfl]
 ·rw [if_neg e, if_neg e]
theorem pp_ {σ σ2 : St} {x : Nat} {B : Blk} {K : List Nat} (hl : x < σ.next) : (σ.set x B).keep (σ2.set x B) K = (σ.keep σ2 K).set x B := by
 refine St.ext' rfl fun i => ?_
 show (if i < σ.next then (if i = x then some B else σ.blk i) else if i ∈ K then (if i = x then some B else σ2.blk i) else none) = if i = x then some B else (if i < σ.next then σ.blk i else if i ∈ K then σ2.blk i else none)
 by_cases e : i = x
 ·subst e; rw [if_pos hl, if_pos rfl, if_pos rfl]
 ·rw [if_neg e, if_neg e, if_neg e]
def Fr.sx (x : Nat) (B : Blk) (fr : Fr) : Fr := ⟨fr.s, fr.σ.set x B⟩
theorem ma_ {fr : Fr} {x : Nat} {B : Blk} {d : Option Nat} {v : T} {σ : St} : (fr.put d v σ).sx x B = (fr.sx x B).put d v (σ.set x B) := by cases d <;> rfl
theorem ml_ {fr : Fr} {d : Option Nat} {v : T} {σ : St} : (fr.put d v σ).σ = σ := by cases d <;> rfl
section
variable {P : Program} {vm : Nat → Md} {X : Ext}
theorem n0_ {fr : Fr} {x : Nat} {B : Blk} (hx : fr.σ.blk x = none) : ∀ {rs : List ResultVar} {l : List T}, resL P fr rs = some l → resL P (fr.sx x B) rs = some l
 | [], l, h => h
 | r :: rs, l, h => by
  simp only [resL] at h ⊢
  obtain ⟨v, h1, h2⟩ := Option.bind_eq_some_iff.1 h
  obtain ⟨l', h3, rfl⟩ := Option.map_eq_some_iff.1 h2
  have k1 : resV P (fr.sx x B) r = some v := by
   cases r with
   | tmp t => exact h1
   | cell a t => obtain ⟨v', e1, rfl⟩ := l3_ (P := P) (B := B) hx v h1; exact e1
  rw [k1, Option.bind_some, n0_ hx h3]; rfl
theorem oo_ {k : Option Nat} {fr : Fr} {x : Nat} {B : Blk} {o : Oper} {v : T} {σ : St} (hk : k ≠ some x) (hx : fr.σ.blk x = none) (hl : x < fr.σ.next) (h : aOp P k fr o = some (.val v σ)) : aOp P k (fr.sx x B) o = some (.val v (σ.set x B)) ∧ σ.blk x = none ∧ x < σ.next := by
 obtain ⟨r, h1, h2⟩ := oH_ (P := P) (B := B) hx hl hk (s := fr.s) _ h
 cases r with
 | val v' σ' => obtain ⟨rfl, rfl, h3⟩ := h2; exact ⟨h1, h3⟩
 | _ => exact h2.elim
theorem l1_ {k : Option Nat} {fr : Fr} {x : Nat} {B : Blk} {o : Oper} {σ : St} (hk : k ≠ some x) (hx : fr.σ.blk x = none) (hl : x < fr.σ.next) (h : aOp P k fr o = some (.skip σ)) : aOp P k (fr.sx x B) o = some (.skip (σ.set x B)) ∧ σ.blk x = none ∧ x < σ.next := by
 obtain ⟨r, h1, h2⟩ := oH_ (P := P) (B := B) hx hl hk (s := fr.s) _ h
 cases r with
 | skip σ' => obtain ⟨rfl, h3⟩ := h2; exact ⟨h1, h3⟩
 | _ => exact h2.elim
theorem lQ_ {k : Option Nat} {fr : Fr} {x : Nat} {B : Blk} {o : Oper} {f : Nat} {as : List T} (hk : k ≠ some x) (hx : fr.σ.blk x = none) (hl : x < fr.σ.next) (h : aOp P k fr o = some (.call f as)) : aOp P k (fr.sx x B) o = some (.call f as) := by
 obtain ⟨r, h1, h2⟩ := oH_ (P := P) (B := B) hx hl hk (s := fr.s) _ h
 cases r with
 | call f' as' => obtain ⟨rfl, rfl⟩ := h2; exact h1
 | _ => exact h2.elim
def XOk (X : Ext) : Prop := ∀ f g, X f = some g → ∀ args σ r σ', g args σ = some (r, σ') → σ' = σ ∧ ∀ σ2, g args σ2 = some (r, σ2)
mutual
theorem EvCall.fm (hX : XOk X) {x : Nat} {B : Blk} {f : Nat} {args : List T} {σ σ' : St} {r : T} : EvCall P vm X f args σ r σ' → σ.blk x = none → x < σ.next → EvCall P vm X f args (σ.set x B) r (σ'.set x B) ∧ σ'.blk x = none ∧ x < σ'.next
 | .mk (fn := fn) (fr := fr) h1 h2 h3 h4 h5 h6 hc he hr, hx, hl => by
  obtain ⟨k, k1, k2⟩ := EvC.fm hX (B := B) hc hx hl
  refine ⟨.mk (fr := fr.sx x B) h1 h2 h3 h4 h5 h6 k he ?_, k1, k2⟩
  unfold resA at hr ⊢
  obtain ⟨l, e1, rfl⟩ := Option.map_eq_some_iff.1 hr
  rw [n0_ k1 e1]; rfl
 | .ext h1 h2, hx, hl => by
  obtain ⟨rfl, h3⟩ := hX _ _ h1 _ _ _ _ h2
  exact ⟨.ext h1 (h3 _), hx, hl⟩
theorem EvP.fm (hX : XOk X) {x : Nat} {B : Blk} {f : Nat} {args : List T} {σ σ' : St} {r : T} : EvP P vm X f args σ r σ' → σ.blk x = none → x < σ.next → EvP P vm X f args (σ.set x B) r (σ'.set x B) ∧ σ'.blk x = none ∧ x < σ'.next
 | .raw h1 h2, hx, hl => by
  obtain ⟨k, k1⟩ := EvCall.fm hX (B := B) h2 hx hl
  exact ⟨.raw h1 k, k1⟩
 | .view (D1 := D1) (D2 := D2) (args' := args') (S := S) (r := r0) (σ2 := σ2) (S2 := S2) h1 h2 h3 h4 h5 h6, hx, hl => by
  obtain ⟨a1, a2⟩ := fi_ (iD_ (B := B) hx D1) h2
  obtain ⟨k, k1, k2⟩ := EvCall.fm hX (B := B) h3 (gK_ hx) hl
  obtain ⟨b1, b2⟩ := iD_ (B := B) k1 D2 _ _ h4
  have e := EvP.view (D1 := D1) (D2 := D2) (S := S) h1 a1 (by rw [gc_ a2]; exact k) b1 h5 (fun i hi => by
   show (if i = x then some B else σ2.blk i) = _
   rw [gc_ a2]
   show _ = (if i = x then some B else (σ.mark S).blk i)
   by_cases e : i = x
   ·rw [if_pos e, if_pos e]
   ·rw [if_neg e, if_neg e]; exact h6 i hi)
  have hx2 : x ∉ S2.filter fun i => decide (i < σ.next) := fun hm => b2 (List.mem_filter.1 hm).1
  have e2 : (if leafT r = true then σ.set x B else ((σ.set x B).mark S).mark (S2.filter fun i => decide (i < (σ.set x B).next))) = (if leafT r = true then σ else (σ.mark S).mark (S2.filter fun i => decide (i < σ.next))).set x B := by
   split
   ·rfl
   ·rw [gc_ a2]; exact gc_ hx2
  rw [e2] at e
  refine ⟨e, ?_, ?_⟩
  ·split
   ·exact hx
   ·exact gK_ (gK_ hx)
  ·split <;> exact hl
 | .own (D1 := D1) (D2 := D2) (args' := args') (S := S) (σ2 := σ2) (K := K) h1 h2 h3 h4 h5 h6, hx, hl => by
  obtain ⟨a1, a2⟩ := fi_ (iD_ (B := B) hx D1) h2
  obtain ⟨k, k1, k2⟩ := EvCall.fm hX (B := B) h3 (gK_ hx) hl
  obtain ⟨b1, b2⟩ := l4_ (B := B) k1 D2 _ _ h4
  have e := EvP.own (D1 := D1) (D2 := D2) (S := S) h1 a1 (by rw [gc_ a2]; exact k) b1 h5 (fun i hi => by
   show (if i = x then some B else σ2.blk i) = _
   rw [gc_ a2]
   show _ = (if i = x then some B else (σ.mark S).blk i)
   by_cases e : i = x
   ·rw [if_pos e, if_pos e]
   ·rw [if_neg e, if_neg e]; exact h6 i hi)
  rw [pp_ hl] at e
  exact ⟨e, by simp only [St.keep]; rw [if_pos hl, hx], k2⟩
theorem EvO.fm (hX : XOk X) {x : Nat} {B : Blk} {ops : Array Oper} {k : Option Nat} (hk : k ≠ some x) {o : Oper} {fr fr' : Fr} : EvO P vm X ops k o fr fr' → fr.σ.blk x = none → x < fr.σ.next → EvO P vm X ops k o (fr.sx x B) (fr'.sx x B) ∧ fr'.σ.blk x = none ∧ x < fr'.σ.next
 | .skip h, hx, hl => by rw [ma_, ml_]; exact ⟨.skip (fr := fr.sx x B) h, hx, hl⟩
 | .val h1 h2, hx, hl => by
  obtain ⟨a1, a2⟩ := oo_ (B := B) hk hx hl h2
  rw [ma_, ml_]; exact ⟨.val (fr := fr.sx x B) h1 a1, a2⟩
 | .nores h1 h2, hx, hl => by
  obtain ⟨a1, a2⟩ := l1_ (B := B) hk hx hl h2
  rw [ma_, ml_]; exact ⟨.nores (fr := fr.sx x B) h1 a1, a2⟩
 | .call h1 h2 h3, hx, hl => by
  have a1 := lQ_ (B := B) hk hx hl h2
  obtain ⟨k1, k2⟩ := EvP.fm hX (B := B) h3 hx hl
  rw [ma_, ml_]; exact ⟨.call (fr := fr.sx x B) h1 a1 k1, k2⟩
theorem EvI.fm (hX : XOk X) {x : Nat} {B : Blk} {ops : Array Oper} {b : Option Nat} (hb : ∀ i, b.map (· + i) ≠ some x) {l : List Nat} {fr fr' : Fr} : EvI P vm X ops b l fr fr' → fr.σ.blk x = none → x < fr.σ.next → EvI P vm X ops b l (fr.sx x B) (fr'.sx x B) ∧ fr'.σ.blk x = none ∧ x < fr'.σ.next
 | .nil, hx, hl => ⟨.nil, hx, hl⟩
 | .cons h1 h2 h3, hx, hl => by
  obtain ⟨k, k1, k2⟩ := EvO.fm hX (B := B) (hb _) h2 hx hl
  obtain ⟨m, m1⟩ := EvI.fm hX (B := B) hb h3 k1 k2
  exact ⟨.cons h1 k m, m1⟩
theorem EvC.fm (hX : XOk X) {x : Nat} {B : Blk} {c : Code} {fr fr' : Fr} {e : aN_} : EvC P vm X c fr e fr' → fr.σ.blk x = none → x < fr.σ.next → EvC P vm X c (fr.sx x B) e (fr'.sx x B) ∧ fr'.σ.blk x = none ∧ x < fr'.σ.next
 | .skip, hx, hl => ⟨.skip, hx, hl⟩
 | .region h, hx, hl => by
  obtain ⟨k, k1⟩ := EvI.fm hX (B := B) (fun i => by simp) h hx hl
  exact ⟨.region k, k1⟩
 | .draw h, hx, hl => by
  have hb : ∀ i, (some fr.σ.next).map (· + i) ≠ some x := fun i e => by simp at e; omega
  have key := fun t => EvI.fm hX (B := B) hb (h t) (by simp [St.bump, hx]) (by simp [St.bump]; omega)
  refine ⟨.draw fun t => ?_, (key default).2⟩
  have := (key t).1
  simp only [Fr.sx] at this ⊢
  rw [oQ_ hl]; exact this
 | .seq h1 h2, hx, hl => by
  obtain ⟨k, k1, k2⟩ := EvC.fm hX (B := B) h1 hx hl
  obtain ⟨m, m1⟩ := EvC.fm hX (B := B) h2 k1 k2
  exact ⟨.seq k m, m1⟩
 | .seqX h1 h2, hx, hl => by
  obtain ⟨k, k1⟩ := EvC.fm hX (B := B) h1 hx hl
  exact ⟨.seqX k h2, k1⟩
 | .condT h1 h2, hx, hl => by
  obtain ⟨k, k1⟩ := EvC.fm hX (B := B) h2 hx hl
  exact ⟨.condT h1 k, k1⟩
 | .condF h1 h2, hx, hl => by
  obtain ⟨k, k1⟩ := EvC.fm hX (B := B) h2 hx hl
  exact ⟨.condF h1 k, k1⟩
 | .block h, hx, hl => by
  obtain ⟨k, k1⟩ := EvC.fm hX (B := B) h hx hl
  exact ⟨.block k, k1⟩
 | .loop h, hx, hl => by
  obtain ⟨k, k1⟩ := EvR.fm hX (B := B) h hx hl
  exact ⟨.loop k, k1⟩
 | .exit, hx, hl => ⟨.exit, hx, hl⟩
 | .ret, hx, hl => ⟨.ret, hx, hl⟩
theorem EvR.fm (hX : XOk X) {x : Nat} {B : Blk} {c : Code} {n : Nat} {fr fr' : Fr} {e : aN_} : EvR P vm X c n fr e fr' → fr.σ.blk x = none → x < fr.σ.next → EvR P vm X c n (fr.sx x B) e (fr'.sx x B) ∧ fr'.σ.blk x = none ∧ x < fr'.σ.next
 | .go h1 h2, hx, hl => by
  obtain ⟨k, k1, k2⟩ := EvC.fm hX (B := B) h1 hx hl
  obtain ⟨m, m1⟩ := EvR.fm hX (B := B) h2 k1 k2
  exact ⟨.go k m, m1⟩
 | .stop h1 h2, hx, hl => by
  obtain ⟨k, k1⟩ := EvC.fm hX (B := B) h1 hx hl
  exact ⟨.stop k h2, k1⟩
end
theorem pU_ (hX : XOk X) {x : Nat} {B : Blk} {f : Nat} {args : List T} {σ σ' : St} {r : T} (h : run P vm X f args σ = some (r, σ')) (hx : σ.blk x = none) (hl : x < σ.next) : run P vm X f args (σ.set x B) = some (r, σ'.set x B) ∧ σ'.blk x = none ∧ x < σ'.next := by
 obtain ⟨k, k1⟩ := EvP.fm hX (B := B) (dJ_.1 h) hx hl
 exact ⟨dJ_.2 k, k1⟩
end
end Go.Am
end
section
set_option linter.unusedVariables false
set_option linter.unusedSimpArgs false
namespace Go.Am
section
variable (P : Program) (k : Option Nat) (fr : Fr) (d : Option Nat) (ty : TypeId) (ps : String) (af : Array Edge) (g : Option (Nat × Bool))
@[simp] theorem tp_ (x : Operand) : aOp P k fr ⟨d, .move x, ty, ps, af, g⟩ = (evalO fr.s x).map fun x => .val x fr.σ := (rfl)
@[simp] theorem o0_ (x : Operand) : aOp P k fr ⟨d, .assign x, ty, ps, af, g⟩ = (evalO fr.s x).map fun x => .val x fr.σ := (rfl)
def sr_ (s : Nat → T) (σ : St) (a b : Operand) : T → Option ARes
 | .bool true => (evalO s a).map fun x => .val x σ
 | .bool false => (evalO s b).map fun x => .val x σ
 | _ => none
@[simp] theorem pN_ (c a b : Operand) : aOp P k fr ⟨d, .pick c a b, ty, ps, af, g⟩ = (evalO fr.s c).bind (sr_ fr.s fr.σ a b) := (rfl)
@[simp] theorem rc_ (s : Nat → T) (σ : St) (a b : Operand) (c : Bool) : sr_ s σ a b (.bool c) = bif c then (evalO s a).map (fun x => .val x σ) else (evalO s b).map (fun x => .val x σ) := by cases c <;> rfl
def nO_ (k : Option Nat) (σ : St) (z : List T) : Option ARes := if σ.okK k = true then some (.val (.ptr (σ.nid k) 0 0 z.length) (σ.pushK k (aP_ z z.length))) else none
@[simp] theorem ue_ (t : TypeId) : aOp P k fr ⟨d, .alloc t, ty, ps, af, g⟩ = (aZ_ P t).bind (nO_ k fr.σ) := (rfl)
@[simp] theorem qC_ (σ : St) (z : List T) : nO_ none σ z = some (.val (.ptr σ.next 0 0 z.length) (σ.pushK none (aP_ z z.length))) := by simp [nO_]
def boxA (k : Option Nat) (σ : St) (x : T) : Option ARes := if x.cells.all T.one = true ∧ σ.okK k = true then some (.val (.ptr (σ.nid k) 0 0 x.cells.length) (σ.pushK k (aP_ x.cells x.cells.length))) else none
@[simp] theorem vu_ (t : TypeId) (x : Operand) : aOp P k fr ⟨d, .box t x, ty, ps, af, g⟩ = (evalO fr.s x).bind (boxA k fr.σ) := (rfl)
@[simp] theorem sa_ (σ : St) (x : T) : boxA none σ x = if x.cells.all T.one = true then some (.val (.ptr σ.next 0 0 x.cells.length) (σ.pushK none (aP_ x.cells x.cells.length))) else none := by simp [boxA]
def pK_ (P : Program) (t : TypeId) (σ : St) (z : List T) (ps : List (Nat × T)) : Option ARes :=
 if aH_ P t = 7 ∧ (b6_ P t).all (fun f => (szOf P f.type).isSome) = true then ((et_ (fun i => (bu_ P t i).map fun (o, _, n) => (o, n)) z ps).map .agg).map fun x => .val x σ else none
@[simp] theorem qY_ (t : TypeId) (parts : Array (Nat × Operand)) : aOp P k fr ⟨d, .build t parts, ty, ps, af, g⟩ = (aZ_ P t).bind fun z => (dh_ fr.s parts.toList).bind fun ps => pK_ P t fr.σ z ps := (rfl)
@[simp] theorem sX_ (place : Nat → Option (Nat × Nat)) (cells : List T) : et_ place cells [] = some cells := (rfl)
def sN_ (place : Nat → Option (Nat × Nat)) (cells : List T) (v : T) (rest : List (Nat × T)) (p : Nat × Nat) : Option (List T) :=
 if v.cells.length = p.2 ∧ p.1 + p.2 ≤ cells.length ∧ v.cells.all T.one = true then et_ place (splice cells p.1 v.cells) rest else none
@[simp] theorem mA_ (place : Nat → Option (Nat × Nat)) (cells : List T) (i : Nat) (v : T) (rest : List (Nat × T)) : et_ place cells ((i, v) :: rest) = (place i).bind (sN_ place cells v rest) := (rfl)
@[simp] theorem ph_ (place : Nat → Option (Nat × Nat)) (cells : List T) (v : T) (rest : List (Nat × T)) (o n : Nat) : sN_ place cells v rest (o, n) = if v.cells.length = n ∧ o + n ≤ cells.length ∧ v.cells.all T.one = true then et_ place (splice cells o v.cells) rest else none := (rfl)
@[simp] theorem kZ_ (cs : List T) (off : Nat) (vs : List T) : splice cs off vs = cs.take off ++ vs ++ cs.drop (off + vs.length) := (rfl)
@[simp] theorem rP_ (cs : List T) : (T.agg cs).cells = cs := (rfl)
@[simp] theorem sw_ (k : IntKind) (n : Int) : (T.int k n).cells = [.int k n] := (rfl)
@[simp] theorem rh_ (b : Bool) : (T.bool b).cells = [.bool b] := (rfl)
@[simp] theorem sI_ (s : ByteArray) : (T.str s).cells = [.str s] := (rfl)
@[simp] theorem cells_nilp : T.nilp.cells = [.nilp] := (rfl)
@[simp] theorem cells_nilf : T.nilf.cells = [.nilf] := (rfl)
@[simp] theorem ts_ (b e o m : Nat) : (T.ptr b e o m).cells = [.ptr b e o m] := (rfl)
@[simp] theorem tX_ (cs : List T) : (T.vw cs).cells = [.vw cs] := (rfl)
@[simp] theorem sC_ (z : Bool) (n : Nat) (cs : List T) : (T.row z n cs).cells = [.row z n cs] := (rfl)
@[simp] theorem cells_emp : T.emp.cells = [.emp] := (rfl)
@[simp] theorem tk_ (b e o n : Nat) : (T.ref b e o n).cells = [.ref b e o n] := (rfl)
@[simp] theorem tW_ (f : Nat) (a b : List T) : (T.fn f a b).cells = [.fn f a b] := (rfl)
@[simp] theorem ux_ (cs : List T) : (T.agg cs).one = false := (rfl)
@[simp] theorem uI_ (k : IntKind) (n : Int) : (T.int k n).one = true := (rfl)
@[simp] theorem tE_ (b : Bool) : (T.bool b).one = true := (rfl)
@[simp] theorem uN_ (s : ByteArray) : (T.str s).one = true := (rfl)
@[simp] theorem one_nilp : T.nilp.one = true := (rfl)
@[simp] theorem one_nilf : T.nilf.one = true := (rfl)
@[simp] theorem uz_ (b e o m : Nat) : (T.ptr b e o m).one = true := (rfl)
@[simp] theorem u9_ (cs : List T) : (T.vw cs).one = true := (rfl)
@[simp] theorem uk_ (z : Bool) (n : Nat) (cs : List T) : (T.row z n cs).one = true := (rfl)
@[simp] theorem one_emp : T.emp.one = true := (rfl)
@[simp] theorem uv_ (b e o n : Nat) : (T.ref b e o n).one = true := (rfl)
@[simp] theorem uR_ (f : Nat) (a b : List T) : (T.fn f a b).one = true := (rfl)
@[simp] theorem du_ (cs : List T) (n : Nat) : (aP_ cs n).cells = cs := (rfl)
@[simp] theorem sF_ (cs : List T) (n : Nat) : (aP_ cs n).esz = n := (rfl)
@[simp] theorem tz_ (cs : List T) (n : Nat) : (aP_ cs n).ep = 0 := (rfl)
@[simp] theorem tq_ (cs : List T) (n : Nat) : (aP_ cs n).low = 0 := (rfl)
@[simp] theorem t4_ (cs : List T) (n : Nat) : (aP_ cs n).st = true := (rfl)
@[simp] theorem hv_ (t : TypeId) (a : Operand) : aOp P k fr ⟨d, .load t a, ty, ps, af, g⟩ = (evalO fr.s a).bind fun a => (h2_ P fr.σ t a).map fun x => .val x fr.σ := (rfl)
@[simp] theorem lT_ (σ : St) (t : TypeId) (cs : List T) : h2_ P σ t (.vw cs) = part P t cs 0 := (rfl)
@[simp] theorem em_ (σ : St) (t : TypeId) (b e off m : Nat) : h2_ P σ t (.ptr b e off m) = (σ.blk b).bind fun B => if B.low ≤ e then part P t ((B.cells.drop off).take m) 0 else none := (rfl)
def qW_ (t : TypeId) (cs : List T) (off : Nat) : Bool → Option T
 | true => (szOf P t).bind fun n => if off + n ≤ cs.length then some (.agg ((cs.drop off).take n)) else none
 | false => cs[off]?
@[simp] theorem nc_ (t : TypeId) (cs : List T) (off : Nat) : part P t cs off = (iS_ P t).bind (qW_ P t cs off) := by
 unfold part
 congr 1
 funext a
 cases a <;> rfl
@[simp] theorem my_ (t : TypeId) (cs : List T) (off : Nat) : qW_ P t cs off true = (szOf P t).bind fun n => if off + n ≤ cs.length then some (.agg ((cs.drop off).take n)) else none := (rfl)
@[simp] theorem ie_ (t : TypeId) (cs : List T) (off : Nat) : qW_ P t cs off false = cs[off]? := (rfl)
@[simp] theorem ng_ (t : TypeId) (a x : Operand) : aOp P k fr ⟨d, .store t a x, ty, ps, af, g⟩ = (evalO fr.s a).bind fun a => (evalO fr.s x).bind fun x => (il_ P fr.σ t a x).map .skip := (rfl)
@[simp] theorem jg_ (σ : St) (t : TypeId) (b e off m : Nat) (v : T) : il_ P σ t (.ptr b e off m) v = (σ.blk b).bind fun B => (szOf P t).bind fun n =>
  if B.st = true ∧ e = B.ep ∧ v.cells.length = n ∧ n ≤ m ∧ off + n ≤ B.cells.length ∧ v.cells.all T.one = true then
   some (σ.set b { B with cells := splice B.cells off v.cells, low := B.ep, ver := B.ver + 1 }) else none := (rfl)
def nilC (σ : St) : T → Option ARes
 | .ptr b e o m => some (.val (.ptr b e o m) σ)
 | .vw cs => some (.val (.vw cs) σ)
 | .fn f a b => some (.val (.fn f a b) σ)
 | _ => none
@[simp] theorem hk_ (x : Operand) : aOp P k fr ⟨d, .nilCheck x, ty, ps, af, g⟩ = (evalO fr.s x).bind (nilC fr.σ) := by
 cases h : evalO fr.s x with
 | none => simp [aOp, h]
 | some t => cases t <;> simp [aOp, h, nilC]
@[simp] theorem tJ_ (σ : St) (b e o m : Nat) : nilC σ (.ptr b e o m) = some (.val (.ptr b e o m) σ) := (rfl)
@[simp] theorem uC_ (σ : St) (cs : List T) : nilC σ (.vw cs) = some (.val (.vw cs) σ) := (rfl)
@[simp] theorem ul_ (σ : St) (f : Nat) (a b : List T) : nilC σ (.fn f a b) = some (.val (.fn f a b) σ) := (rfl)
@[simp] theorem he_ (op : BinOp) (t : TypeId) (x y : Operand) (u : TypeId) : aOp P k fr ⟨d, .binOp op t x y u, ty, ps, af, g⟩ = (evalO fr.s x).bind fun x => (evalO fr.s y).bind fun y => (binA P op t x y).map fun x => .val x fr.σ := (rfl)
@[simp] theorem lR_ (op : BinOp) (t : TypeId) (k : IntKind) (a b : Int) : binA P op t (.int k a) (.int k b) = dg_ op k a b := by simp [binA]
@[simp] theorem oS_ (op : BinOp) (t : TypeId) (a b : ByteArray) : binA P op t (.str a) (.str b) = fX_ op a b := (rfl)
@[simp] theorem oN_ (t : TypeId) (a b : Bool) : binA P .eql t (.bool a) (.bool b) = (eqA P t (.bool a) (.bool b)).map fun b => .bool b := (rfl)
@[simp] theorem pi_ (t : TypeId) (a b : Bool) : binA P .neq t (.bool a) (.bool b) = (eqA P t (.bool a) (.bool b)).map fun b => .bool (!b) := (rfl)
@[simp] theorem vg_ (k : IntKind) (a b : Int) : dg_ .add k a b = some (.int k (k.wrap (a + b))) := (rfl)
@[simp] theorem vb_ (k : IntKind) (a b : Int) : dg_ .sub k a b = some (.int k (k.wrap (a - b))) := (rfl)
@[simp] theorem vj_ (k : IntKind) (a b : Int) : dg_ .mul k a b = some (.int k (k.wrap (a * b))) := (rfl)
@[simp] theorem s8_ (k : IntKind) (a b : Int) : dg_ .quo k a b = if b = 0 then none else some (.int k (k.wrap (a.tdiv b))) := (rfl)
@[simp] theorem sd_ (k : IntKind) (a b : Int) : dg_ .rem k a b = if b = 0 then none else some (.int k (a.tmod b)) := (rfl)
@[simp] theorem u4_ (k : IntKind) (a b : Int) : dg_ .eql k a b = some (.bool (decide (a = b))) := (rfl)
@[simp] theorem uQ_ (k : IntKind) (a b : Int) : dg_ .neq k a b = some (.bool (!decide (a = b))) := (rfl)
@[simp] theorem u5_ (k : IntKind) (a b : Int) : dg_ .lss k a b = some (.bool (decide (a < b))) := (rfl)
@[simp] theorem vi_ (k : IntKind) (a b : Int) : dg_ .leq k a b = some (.bool (decide (a ≤ b))) := (rfl)
@[simp] theorem uW_ (k : IntKind) (a b : Int) : dg_ .gtr k a b = some (.bool (decide (b < a))) := (rfl)
@[simp] theorem uX_ (k : IntKind) (a b : Int) : dg_ .geq k a b = some (.bool (decide (b ≤ a))) := (rfl)
@[simp] theorem sy_ (a b : ByteArray) : fX_ .add a b = if a.size + b.size ≤ 9223372036854775807 then some (.str (a ++ b)) else none := (rfl)
@[simp] theorem ve_ (a b : ByteArray) : fX_ .eql a b = some (.bool (decide (a = b))) := (rfl)
@[simp] theorem vc_ (a b : ByteArray) : fX_ .neq a b = some (.bool (!decide (a = b))) := (rfl)
@[simp] theorem u7_ (a b : ByteArray) : fX_ .lss a b = some (.bool (Op.bytesLess a.toList b.toList)) := (rfl)
@[simp] theorem u0_ (a b : ByteArray) : fX_ .leq a b = some (.bool (Op.bytesLess a.toList b.toList || decide (a = b))) := (rfl)
@[simp] theorem u1_ (a b : ByteArray) : fX_ .gtr a b = some (.bool (!(Op.bytesLess a.toList b.toList || decide (a = b)))) := (rfl)
@[simp] theorem va_ (a b : ByteArray) : fX_ .geq a b = some (.bool (!Op.bytesLess a.toList b.toList)) := (rfl)
@[simp] theorem rE_ (op : UnOp) (t : TypeId) (x : Operand) : aOp P k fr ⟨d, .unOp op t x, ty, ps, af, g⟩ = (evalO fr.s x).bind fun x => (unA op x).map fun x => .val x fr.σ := (rfl)
@[simp] theorem up_ (k : IntKind) (n : Int) : unA .neg (.int k n) = some (.int k (k.wrap (0 - n))) := (rfl)
@[simp] theorem uB_ (b : Bool) : unA .not (.bool b) = some (.bool !b) := (rfl)
@[simp] theorem kF_ (src dst : TypeId) (x : Operand) : aOp P k fr ⟨d, .convert src dst x, ty, ps, af, g⟩ = (evalO fr.s x).bind fun x => (iM_ P k fr.σ src dst x).map fun p => .val p.1 p.2 := (rfl)
def rV_ (σ : St) (n : Int) : Option TypeDesc → Option (T × St)
 | some (.int k) => some (.int k (k.wrap n), σ)
 | _ => none
@[simp] theorem ox_ (σ : St) (src dst : TypeId) (kk : IntKind) (n : Int) : iM_ P k σ src dst (.int kk n) = if b0_ P src = true then rV_ σ n (P.underlying dst) else none := by
 unfold iM_
 simp only
 split <;> rfl
@[simp] theorem rI_ (σ : St) (n : Int) (k : IntKind) : rV_ σ n (some (.int k)) = some (.int k (k.wrap n), σ) := (rfl)
@[simp] theorem mX_ (f : Nat) (first caps : Array Operand) : aOp P k fr ⟨d, .makeFunc (.func f) first caps, ty, ps, af, g⟩ = (bA_ fr.s first.toList).bind fun a => (bA_ fr.s caps.toList).bind fun b => some (.val (.fn f a b) fr.σ) := (rfl)
def of_ (σ : St) (x : T) (p : Nat × TypeId × Nat) : Option ARes :=
 if p.2.2 = 0 then none else
 match x with
 | .ptr b e o m => if p.1 + p.2.2 ≤ m then some (.val (.ptr b e (o + p.1) p.2.2) σ) else none
 | .vw cs => if p.1 + p.2.2 ≤ cs.length then some (.val (.vw (cs.drop p.1)) σ) else none
 | _ => none
@[simp] theorem ib_ (t : TypeId) (x : Operand) (f : Nat) : aOp P k fr ⟨d, .fieldAddr t x f, ty, ps, af, g⟩ = (evalO fr.s x).bind fun x => (bu_ P t f).bind (of_ fr.σ x) := (rfl)
@[simp] theorem mZ_ (σ : St) (b e o m off : Nat) (t : TypeId) (n : Nat) : of_ σ (.ptr b e o m) (off, t, n) = if n = 0 then none else if off + n ≤ m then some (.val (.ptr b e (o + off) n) σ) else none := (rfl)
@[simp] theorem nf_ (σ : St) (cs : List T) (off : Nat) (t : TypeId) (n : Nat) : of_ σ (.vw cs) (off, t, n) = if n = 0 then none else if off + n ≤ cs.length then some (.val (.vw (cs.drop off)) σ) else none := (rfl)
def py_ (P : Program) (σ : St) (x : T) (p : Nat × TypeId × Nat) : Option ARes :=
 match x with
 | .agg cs => (part P p.2.1 cs p.1).map fun x => .val x σ
 | _ => none
@[simp] theorem qN_ (t : TypeId) (x : Operand) (f : Nat) : aOp P k fr ⟨d, .field t x f, ty, ps, af, g⟩ = (evalO fr.s x).bind fun x => (bu_ P t f).bind (py_ P fr.σ x) := (rfl)
@[simp] theorem mP_ (σ : St) (cs : List T) (off : Nat) (t : TypeId) (n : Nat) : py_ P σ (.agg cs) (off, t, n) = (part P t cs off).map fun x => .val x σ := (rfl)
@[simp] theorem gt_ (t : TypeId) (x i : Operand) : aOp P k fr ⟨d, .indexAddr t x i, ty, ps, af, g⟩ = (evalO fr.s x).bind fun x => (evalO fr.s i).bind fun i => (eM_ P fr.σ t x i).map fun x => .val x fr.σ := (rfl)
@[simp] theorem sz_ (σ : St) (t : TypeId) (z : Bool) (n : Nat) (cs : List T) (kk : IntKind) (j : Int) : eM_ P σ t (.row z n cs) (.int kk j) = (av_ P t).bind fun e => (szOf P e).bind fun sz => if 0 ≤ j ∧ j < n ∧ cs.length = n * sz then some (.vw (cs.drop (j.toNat * sz))) else none := (rfl)
@[simp] theorem pR_ (σ : St) (t : TypeId) (b ep off n : Nat) (kk : IntKind) (j : Int) : eM_ P σ t (.ref b ep off n) (.int kk j) = (av_ P t).bind fun e => (szOf P e).bind fun sz => (σ.blk b).bind fun B => if 0 ≤ j ∧ j < n ∧ B.esz = sz then some (.ptr b ep (off + j.toNat * sz) sz) else none := (rfl)
@[simp] theorem p8_ (t : TypeId) (x i : Operand) : aOp P k fr ⟨d, .index t x i, ty, ps, af, g⟩ = (evalO fr.s x).bind fun x => (evalO fr.s i).bind fun i => (iY_ P t x i).map fun x => .val x fr.σ := (rfl)
theorem mW_ {t : TypeId} (h : aH_ P t = 3) (s : ByteArray) (kk : IntKind) (j : Int) : iY_ P t (.str s) (.int kk j) = if h : 0 ≤ j ∧ j.toNat < s.size then some (.int .u8 (s[j.toNat]'h.2).toNat) else none := by
 unfold iY_; simp [h]
@[simp] theorem ow_ (x : Operand) (i : Nat) : aOp P k fr ⟨d, .extract x i, ty, ps, af, g⟩ = (evalO fr.s x).bind fun x => aOp P none ⟨fun _ => x, fr.σ⟩ ⟨none, .extract (.tmp 0) i, 0, "", #[], none⟩ := by
 cases h : evalO fr.s x with
 | none => simp [aOp, h]
 | some v => simp [aOp, h]
@[simp] theorem j1_ (cs : List T) (i : Nat) (σ : St) : aOp P none ⟨fun _ => .tup cs, σ⟩ ⟨none, .extract (.tmp 0) i, 0, "", #[], none⟩ = (cs[i]?).map fun x => .val x σ := (rfl)
def lenR (P : Program) (σ : St) : List T → List TypeId → Option ARes
 | [x], [t] => (lenA P σ t x).map fun x => .val x σ
 | _, _ => none
@[simp] theorem le_ (σ : St) (x : T) (t : TypeId) : lenR P σ [x] [t] = (lenA P σ t x).map fun x => .val x σ := (rfl)
@[simp] theorem qp_ (args : Array Operand) (ts : Array TypeId) : aOp P k fr ⟨d, .call ⟨.builtin .len, args, ts⟩, ty, ps, af, g⟩ = (bA_ fr.s args.toList).bind fun as => lenR P fr.σ as ts.toList := by
 unfold aOp
 simp only
 congr 1
@[simp] theorem tL_ (σ : St) (t : TypeId) (z : Bool) (n : Nat) (cs : List T) : lenA P σ t (.row z n cs) = if aH_ P t = 4 then some (.int .i64 n) else none := (rfl)
@[simp] theorem tV_ (σ : St) (t : TypeId) (b e o n : Nat) : lenA P σ t (.ref b e o n) = if aH_ P t = 4 then some (.int .i64 n) else none := (rfl)
@[simp] theorem tH_ (σ : St) (t : TypeId) : lenA P σ t .emp = if aH_ P t = 4 then some (.int .i64 0) else none := (rfl)
@[simp] theorem tO_ (σ : St) (t : TypeId) (s : ByteArray) : lenA P σ t (.str s) = if aH_ P t = 3 then some (.int .i64 s.size) else none := (rfl)
def appR (P : Program) (k : Option Nat) (σ : St) : List T → List TypeId → Option ARes
 | [x, y], [t, t2] => (a7_ P k σ t t2 x y).map fun p => .val p.1 p.2
 | _, _ => none
@[simp] theorem ug_ (σ : St) (x y : T) (t t2 : TypeId) : appR P k σ [x, y] [t, t2] = (a7_ P k σ t t2 x y).map fun p => .val p.1 p.2 := (rfl)
@[simp] theorem tP_ (args : Array Operand) (ts : Array TypeId) : aOp P k fr ⟨d, .call ⟨.builtin .append, args, ts⟩, ty, ps, af, g⟩ = (bA_ fr.s args.toList).bind fun as => appR P k fr.σ as ts.toList := by
 unfold aOp
 simp only
 congr 1
def sL_ (σ : St) (args : List T) : T → Option ARes
 | .fn f first caps => some (.call f (first ++ args ++ caps))
 | _ => none
@[simp] theorem t3_ (σ : St) (args : List T) (f : Nat) (a b : List T) : sL_ σ args (.fn f a b) = some (.call f (a ++ args ++ b)) := (rfl)
@[simp] theorem h3_ (f : Operand) (args : Array Operand) (ts : Array TypeId) : aOp P k fr ⟨d, .call ⟨.value f, args, ts⟩, ty, ps, af, g⟩ = (bA_ fr.s args.toList).bind fun as => (evalO fr.s f).bind (sL_ fr.σ as) := by
 unfold aOp
 simp only
 congr 1
def minR (σ : St) : List T → Option ARes
 | [.int k x, .int _ y] => some (.val (.int k (if y < x then y else x)) σ)
 | _ => none
def maxR (σ : St) : List T → Option ARes
 | [.int k x, .int _ y] => some (.val (.int k (if x < y then y else x)) σ)
 | _ => none
@[simp] theorem ua_ (σ : St) (k k' : IntKind) (x y : Int) : minR σ [.int k x, .int k' y] = some (.val (.int k (if y < x then y else x)) σ) := (rfl)
@[simp] theorem uM_ (σ : St) (k k' : IntKind) (x y : Int) : maxR σ [.int k x, .int k' y] = some (.val (.int k (if x < y then y else x)) σ) := (rfl)
@[simp] theorem vt_ (args : Array Operand) (ts : Array TypeId) : aOp P k fr ⟨d, .call ⟨.builtin .min, args, ts⟩, ty, ps, af, g⟩ = (bA_ fr.s args.toList).bind (minR fr.σ) := by
 unfold aOp
 simp only
 congr 1
@[simp] theorem vy_ (args : Array Operand) (ts : Array TypeId) : aOp P k fr ⟨d, .call ⟨.builtin .max, args, ts⟩, ty, ps, af, g⟩ = (bA_ fr.s args.toList).bind (maxR fr.σ) := by
 unfold aOp
 simp only
 congr 1
def ss_ (P : Program) (k : Option Nat) (σ : St) (t : TypeId) (l c : T) : Option ARes :=
 match l, c with
 | .int _ l, .int _ c => (av_ P t).bind fun e => (szOf P e).bind fun sz => (bY_ P e).bind fun by_ => (aZ_ P e).bind fun z =>
   if 0 ≤ l ∧ l ≤ c ∧ c * by_ ≤ 2 ^ 40 ∧ c ≤ 2 ^ 40 ∧ z.length = sz ∧ sz ≠ 0 ∧ σ.okK k = true then
    some (.val (if l = 0 ∧ c = 0 then .emp else .ref (σ.nid k) 0 0 l.toNat) (σ.pushK k (aP_ ((List.replicate l.toNat z).flatten) sz))) else none
 | _, _ => none
@[simp] theorem p3_ (t : TypeId) (l c : Operand) : aOp P k fr ⟨d, .makeSlice t l c, ty, ps, af, g⟩ = (evalO fr.s l).bind fun l => (evalO fr.s c).bind fun c => ss_ P k fr.σ t l c := (rfl)
@[simp] theorem tr_ (σ : St) (t : TypeId) (k1 k2 : IntKind) (l c : Int) : ss_ P k σ t (.int k1 l) (.int k2 c) = (av_ P t).bind fun e => (szOf P e).bind fun sz => (bY_ P e).bind fun by_ => (aZ_ P e).bind fun z =>
   if 0 ≤ l ∧ l ≤ c ∧ c * by_ ≤ 2 ^ 40 ∧ c ≤ 2 ^ 40 ∧ z.length = sz ∧ sz ≠ 0 ∧ σ.okK k = true then
    some (.val (if l = 0 ∧ c = 0 then .emp else .ref (σ.nid k) 0 0 l.toNat) (σ.pushK k (aP_ ((List.replicate l.toNat z).flatten) sz))) else none := (rfl)
def pO_ (P : Program) (k : Option Nat) (σ : St) (len sz : Nat) (z : List T) (ps : List (Nat × T)) : Option ARes :=
 if z.length = sz ∧ len * sz ≤ 2 ^ 24 ∧ sz ≠ 0 ∧ σ.okK k = true then (et_ (fun i => some (i * sz, sz)) ((List.replicate len z).flatten) ps).map fun cs => .val (if len = 0 then .emp else .ref (σ.nid k) 0 0 len) (σ.pushK k (aP_ cs sz)) else none
@[simp] theorem fT_ (t : TypeId) (len : Nat) (parts : Array (Nat × Operand)) : aOp P k fr ⟨d, .buildSlice t len parts, ty, ps, af, g⟩ = (av_ P t).bind fun e => (szOf P e).bind fun sz => (aZ_ P e).bind fun z => (dh_ fr.s parts.toList).bind fun ps => pO_ P k fr.σ len sz z ps := (rfl)
@[simp] theorem iE_ (σ : St) (len sz : Nat) (z : List T) (ps : List (Nat × T)) : pO_ P k σ len sz z ps = if z.length = sz ∧ len * sz ≤ 2 ^ 24 ∧ sz ≠ 0 ∧ σ.okK k = true then (et_ (fun i => some (i * sz, sz)) ((List.replicate len z).flatten) ps).map fun cs => .val (if len = 0 then .emp else .ref (σ.nid k) 0 0 len) (σ.pushK k (aP_ cs sz)) else none := (rfl)
def slcR (P : Program) (σ : St) (t : TypeId) (x : T) (lo hi mx : Option T) : Option ARes := if okO lo && okO hi && okO mx then (fL_ P σ t x lo hi mx).map fun x => .val x σ else none
@[simp] theorem j7_ (t : TypeId) (x : Operand) (lo hi mx : Option Operand) : aOp P k fr ⟨d, .slice t x lo hi mx, ty, ps, af, g⟩ = (evalO fr.s x).bind fun x => (dP_ fr.s lo).bind fun lo => (dP_ fr.s hi).bind fun hi => (dP_ fr.s mx).bind fun mx => slcR P fr.σ t x lo hi mx := (rfl)
@[simp] theorem eL_ (s : Nat → T) : dP_ s none = some none := (rfl)
@[simp] theorem pB_ (s : Nat → T) (x : Operand) : dP_ s (some x) = (evalO s x).map some := (rfl)
@[simp] theorem okO_none : okO none = true := (rfl)
@[simp] theorem uj_ (k : IntKind) (n : Int) : okO (some (.int k n)) = true := (rfl)
@[simp] theorem j6_ (σ : St) (t : TypeId) (x : T) (lo hi mx : Option T) : slcR P σ t x lo hi mx = if okO lo && okO hi && okO mx then (fL_ P σ t x lo hi mx).map fun x => .val x σ else none := (rfl)
@[simp] theorem qB_ (n : Nat) : boundA none n = some n := (rfl)
@[simp] theorem ri_ (k : IntKind) (i : Int) (n : Nat) : boundA (some (.int k i)) n = if 0 ≤ i then some i.toNat else none := (rfl)
@[simp] theorem m7_ (σ : St) (t : TypeId) (s : ByteArray) (lo hi : Option T) : fL_ P σ t (.str s) lo hi none = if aH_ P t = 3 then (boundA hi s.size).bind fun h => (boundA lo 0).bind fun l => if l ≤ h ∧ h ≤ s.size then some (.str (s.extract l h)) else none else none := (rfl)
@[simp] theorem m3_ (σ : St) (t : TypeId) (z : Bool) (n : Nat) (cs : List T) (lo hi : Option T) : fL_ P σ t (.row z n cs) lo hi none = (av_ P t).bind fun e => (szOf P e).bind fun sz => (boundA hi n).bind fun h => (boundA lo 0).bind fun l => if l ≤ h ∧ h ≤ n ∧ cs.length = n * sz then some (.row z (h - l) ((cs.drop (l * sz)).take ((h - l) * sz))) else none := (rfl)
@[simp] theorem i3_ (σ : St) (t : TypeId) (b ep off n : Nat) (lo hi : Option T) : fL_ P σ t (.ref b ep off n) lo hi none = (av_ P t).bind fun e => (szOf P e).bind fun sz => (σ.blk b).bind fun B => (boundA hi n).bind fun h => (boundA lo 0).bind fun l => if l ≤ h ∧ h ≤ n ∧ B.esz = sz ∧ B.low ≤ ep ∧ sz ≠ 0 then some (.ref b ep (off + l * sz) (h - l)) else none := (rfl)
@[simp] theorem p7_ (ops : Array Oper) (o : Op) (s : Nat → T) : wantedA ops ⟨d, o, ty, ps, af, none⟩ s = true := (rfl)
def pd_ (want : Bool) : T → Bool
 | .bool b => b == want
 | _ => false
def sn_ (want : Bool) (s : Nat → T) : Option Nat → Bool
 | some d => pd_ want (s d)
 | none => false
@[simp] theorem p0_ (ops : Array Oper) (o : Op) (s : Nat → T) (j : Nat) (want : Bool) : wantedA ops ⟨d, o, ty, ps, af, some (j, want)⟩ s = sn_ want s ((ops[j]?).bind (·.dst)) := by
 unfold wantedA
 simp only
 cases h : (ops[j]?).bind (·.dst) with
 | none => rfl
 | some d =>
  show (match s d with | .bool b => b == want | _ => false) = pd_ want (s d)
  cases s d <;> rfl
@[simp] theorem rr_ (want : Bool) (s : Nat → T) (d : Nat) : sn_ want s (some d) = pd_ want (s d) := (rfl)
@[simp] theorem rb_ (want b : Bool) : pd_ want (.bool b) = (b == want) := (rfl)
end
end Go.Am
end
section
set_option linter.unusedVariables false
set_option linter.unusedSimpArgs false
namespace Go.Am
theorem gI_ {f : T → Option (T × List Nat)} : ∀ {ts : List T}, (∀ t ∈ ts, f t = some (t, [])) → frzL f ts = some (ts, [])
 | [], _ => rfl
 | t :: ts, h => by
  have ih := gI_ (f := f) (ts := ts) fun t ht => h t (by simp [ht])
  simp [frzL, h t (by simp), ih]
@[simp] theorem ud_ (σ : St) (d : Nat) (cs : List T) : own σ (d + 1) (.agg cs) = (frzL (own σ d) cs).map fun q => (.agg q.1, q.2) := (rfl)
@[simp] theorem uD_ (σ : St) (d : Nat) (cs : List T) : own σ (d + 1) (.tup cs) = (frzL (own σ d) cs).map fun q => (.tup q.1, q.2) := (rfl)
@[simp] theorem tM_ (σ : St) (d : Nat) (s : ByteArray) : own σ d (.str s) = some (.str s, []) := by cases d <;> rfl
@[simp] theorem uG_ (σ : St) (d : Nat) (k : IntKind) (n : Int) : own σ d (.int k n) = some (.int k n, []) := by cases d <;> rfl
@[simp] theorem tG_ (σ : St) (d : Nat) (b : Bool) : own σ d (.bool b) = some (.bool b, []) := by cases d <;> rfl
@[simp] theorem t6_ (σ : St) (d : Nat) : own σ d (.row true 0 []) = some (.row true 0 [], []) := by cases d <;> rfl
@[simp] theorem tY_ (f : T → Option (T × List Nat)) : frzL f [] = some ([], []) := (rfl)
@[simp] theorem rx_ (f : T → Option (T × List Nat)) (t : T) (ts : List T) : frzL f (t :: ts) = (f t).bind fun p => (frzL f ts).map fun q => (p.1 :: q.1, p.2 ++ q.2) := (rfl)
end Go.Am
end
