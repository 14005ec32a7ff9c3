/- The abstract machine. -/
import Derived.Test.YtohkcdkmpencnaaDoorAm2
section
set_option linter.unusedVariables false
set_option linter.unusedSimpArgs false
namespace Go.Am
open Classical
def hold (z : Bool) (σ : St) : Nat → T → Option (T × List Nat)
  | d + 1, .ref b e off n => (σ.blk b).bind fun B => if (z = true → B.st = true) ∧ e = B.ep ∧ B.low ≤ B.ep ∧ off = 0 ∧ B.cells.length = n * B.esz ∧ B.esz ≠ 0 ∧ B.cells.all T.one = true ∧ n ≠ 0 then (frzL (hold z σ d) B.cells).map fun q => (.row false n q.1, b :: q.2) else none
  | d + 1, .agg cs => (frzL (hold z σ d) cs).map fun q => (.agg q.1, q.2)
  | d + 1, .tup cs => (frzL (hold z σ d) cs).map fun q => (.tup q.1, q.2)
  | _, .emp => some (.row false 0 [], [])
  | _, .row true 0 [] => some (.row true 0 [], [])
  | _, .row zz n cs => if z = true then none else some (.row zz n cs, [])
  | _, .int k n => some (.int k n, [])
  | _, .bool b => some (.bool b, [])
  | _, .str s => some (.str s, [])
  | _, .nilp => some (.nilp, [])
  | _, .nilf => some (.nilf, [])
  | _, .nili => some (.nili, [])
  | _, .nilm => some (.nilm, [])
  | _, .fn f a b => if z = true then none else some (.fn f a b, [])
  | _, .vw cs => if z = true then none else some (.vw cs, [])
  | _, .ptr b e o m => if z = true then none else some (.ptr b e o m, [])
  | _, _ => none
theorem hold_row {z : Bool} {σ : St} {d : Nat} {zz : Bool} {n : Nat} {cs : List T} {v : T} {K : List Nat} (h : hold z σ d (.row zz n cs) = some (v, K)) : v = .row zz n cs ∧ K = [] := by
  cases zz <;> cases n <;> cases cs <;> cases d <;> simp [hold] at h <;> simp_all
theorem hold_row2 {z : Bool} {σ σ' : St} {d d' : Nat} {zz : Bool} {n : Nat} {cs : List T} {v : T} {K : List Nat} (h : hold z σ d (.row zz n cs) = some (v, K)) : hold z σ' d' (.row zz n cs) = some (v, K) := by
  cases zz <;> cases n <;> cases cs <;> cases d <;> cases d' <;> simp [hold] at h ⊢ <;> exact h
theorem hold_frz {z : Bool} {σ : St} : ∀ (d : Nat) (t v : T) (S : List Nat), hold z σ d t = some (v, S) → frz σ d t = some (v, S)
  | 0, t, v, S, h => by
    cases t with
    | row zz n cs => obtain ⟨rfl, rfl⟩ := hold_row h; simp [frz]
    | _ => simp [hold] at h <;> simp [frz, h]
  | d + 1, t, v, S, h => by
    cases t with
    | ref b e off n =>
      simp only [hold] at h
      obtain ⟨B, hb, h1⟩ := Option.bind_eq_some_iff.1 h
      split at h1
      · rename_i hc
        obtain ⟨⟨cs, S1⟩, h2, h3⟩ := Option.map_eq_some_iff.1 h1
        injection h3 with h3 h4; subst h3; subst h4
        have h5 := frzL_congr (g := frz σ d) (fun t v S' _ hh _ => hold_frz d t v S' hh) h2
        have h6 : (B.cells.drop off).take (n * B.esz) = B.cells := by rw [hc.2.2.2.1, List.drop_zero, ← hc.2.2.2.2.1, List.take_length]
        simp only [frz, hb, Option.bind_some, h6, h5, Option.map_some]
        rw [if_pos ⟨by rw [hc.2.1]; exact hc.2.2.1, hc.2.2.2.2.2.1⟩]
      · cases h1
    | agg cs =>
      simp only [hold] at h
      obtain ⟨⟨cs', S1⟩, h2, h3⟩ := Option.map_eq_some_iff.1 h
      injection h3 with h3 h4; subst h3; subst h4
      simp only [frz, frzL_congr (g := frz σ d) (fun t v S' _ hh _ => hold_frz d t v S' hh) h2, Option.map_some]
    | tup cs =>
      simp only [hold] at h
      obtain ⟨⟨cs', S1⟩, h2, h3⟩ := Option.map_eq_some_iff.1 h
      injection h3 with h3 h4; subst h3; subst h4
      simp only [frz, frzL_congr (g := frz σ d) (fun t v S' _ hh _ => hold_frz d t v S' hh) h2, Option.map_some]
    | row zz n cs => obtain ⟨rfl, rfl⟩ := hold_row h; simp [frz]
    | _ => simp [hold] at h <;> simp [frz, h]
theorem hold_same {z : Bool} {σ σ' : St} : ∀ (d : Nat) (t v : T) (S : List Nat), (∀ b ∈ S, σ'.blk b = σ.blk b) → hold z σ d t = some (v, S) → hold z σ' d t = some (v, S)
  | 0, t, v, S, hS, h => by cases t with
    | row zz n cs => exact hold_row2 h
    | _ => simp [hold] at h <;> simp [hold, h]
  | d + 1, t, v, S, hS, h => by
    cases t with
    | ref b e off n =>
      simp only [hold] at h
      obtain ⟨B, hb, h1⟩ := Option.bind_eq_some_iff.1 h
      split at h1
      · rename_i hc
        obtain ⟨⟨cs, S1⟩, h2, h3⟩ := Option.map_eq_some_iff.1 h1
        injection h3 with h3 h4; subst h3; subst h4
        have h5 := frzL_congr (g := hold z σ' d) (fun t v S' _ hh hs => hold_same d t v S' (fun b' hb' => hS b' (by simp [hs b' hb'])) hh) h2
        simp only [hold, hS b (by simp), hb, Option.bind_some, h5, Option.map_some]
        rw [if_pos hc]
      · cases h1
    | agg cs =>
      simp only [hold] at h
      obtain ⟨⟨cs', S1⟩, h2, h3⟩ := Option.map_eq_some_iff.1 h
      injection h3 with h3 h4; subst h3; subst h4
      simp only [hold, frzL_congr (g := hold z σ' d) (fun t v S' _ hh hs => hold_same d t v S' (fun b' hb' => hS b' (hs b' hb')) hh) h2, Option.map_some]
    | tup cs =>
      simp only [hold] at h
      obtain ⟨⟨cs', S1⟩, h2, h3⟩ := Option.map_eq_some_iff.1 h
      injection h3 with h3 h4; subst h3; subst h4
      simp only [hold, frzL_congr (g := hold z σ' d) (fun t v S' _ hh hs => hold_same d t v S' (fun b' hb' => hS b' (hs b' hb')) hh) h2, Option.map_some]
    | row zz n cs => exact hold_row2 h
    | _ => simp [hold] at h <;> simp [hold, h]
theorem hold_mono {z : Bool} {σ : St} : ∀ (d : Nat) (t v : T) (S : List Nat), hold z σ d t = some (v, S) → ∀ d', d ≤ d' → hold z σ d' t = some (v, S)
  | 0, t, v, S, h, d', _ => by
    cases t with
    | row zz n cs => exact hold_row2 h
    | ref b e off n => simp [hold] at h
    | agg cs => simp [hold] at h
    | tup cs => simp [hold] at h
    | _ => cases d' <;> simp [hold] at h <;> simp [hold, h]
  | d + 1, t, v, S, h, d', hd => by
    obtain ⟨d', rfl⟩ : ∃ k, d' = k + 1 := ⟨d' - 1, by omega⟩
    cases t with
    | ref b e off n =>
      simp only [hold] at h
      obtain ⟨B, hb, h1⟩ := Option.bind_eq_some_iff.1 h
      split at h1
      · rename_i hc
        obtain ⟨⟨cs, S1⟩, h2, h3⟩ := Option.map_eq_some_iff.1 h1
        injection h3 with h3 h4; subst h3; subst h4
        have h5 := frzL_congr (g := hold z σ d') (fun t v S' _ hh hs => hold_mono d t v S' hh d' (by omega)) h2
        simp only [hold, hb, Option.bind_some, h5, Option.map_some]
        rw [if_pos hc]
      · cases h1
    | agg cs =>
      simp only [hold] at h
      obtain ⟨⟨cs', S1⟩, h2, h3⟩ := Option.map_eq_some_iff.1 h
      injection h3 with h3 h4; subst h3; subst h4
      simp only [hold, frzL_congr (g := hold z σ d') (fun t v S' _ hh hs => hold_mono d t v S' hh d' (by omega)) h2, Option.map_some]
    | tup cs =>
      simp only [hold] at h
      obtain ⟨⟨cs', S1⟩, h2, h3⟩ := Option.map_eq_some_iff.1 h
      injection h3 with h3 h4; subst h3; subst h4
      simp only [hold, frzL_congr (g := hold z σ d') (fun t v S' _ hh hs => hold_mono d t v S' hh d' (by omega)) h2, Option.map_some]
    | row zz n cs => exact hold_row2 h
    | _ => simp [hold] at h <;> simp [hold, h]
theorem hold_own {σ : St} : ∀ (d : Nat) (t v : T) (S : List Nat), hold true σ d t = some (v, S) → own σ d t = some (v, S)
  | 0, t, v, S, h => by
    cases t with
    | row zz n cs => cases zz <;> cases n <;> cases cs <;> simp [hold] at h; (obtain ⟨rfl, rfl⟩ := h; simp [own])
    | _ => simp [hold] at h <;> simp [own, h]
  | d + 1, t, v, S, h => by
    cases t with
    | ref b e off n =>
      simp only [hold] at h
      obtain ⟨B, hb, h1⟩ := Option.bind_eq_some_iff.1 h
      split at h1
      · rename_i hc
        obtain ⟨⟨cs, S1⟩, h2, h3⟩ := Option.map_eq_some_iff.1 h1
        injection h3 with h3 h4; subst h3; subst h4
        have h5 := frzL_congr (g := own σ d) (fun t v S' _ hh _ => hold_own d t v S' hh) h2
        simp only [own, hb, Option.bind_some, h5, Option.map_some]
        rw [if_pos ⟨hc.1 trivial, hc.2.1, hc.2.2.2.1, hc.2.2.2.2.1, hc.2.2.2.2.2.1⟩]
      · cases h1
    | agg cs =>
      simp only [hold] at h
      obtain ⟨⟨cs', S1⟩, h2, h3⟩ := Option.map_eq_some_iff.1 h
      injection h3 with h3 h4; subst h3; subst h4
      simp only [own, frzL_congr (g := own σ d) (fun t v S' _ hh _ => hold_own d t v S' hh) h2, Option.map_some]
    | tup cs =>
      simp only [hold] at h
      obtain ⟨⟨cs', S1⟩, h2, h3⟩ := Option.map_eq_some_iff.1 h
      injection h3 with h3 h4; subst h3; subst h4
      simp only [own, frzL_congr (g := own σ d) (fun t v S' _ hh _ => hold_own d t v S' hh) h2, Option.map_some]
    | row zz n cs => cases zz <;> cases n <;> cases cs <;> simp [hold] at h; (obtain ⟨rfl, rfl⟩ := h; simp [own])
    | _ => simp [hold] at h <;> simp [own, h]
def isTop : T → Bool
  | .row true 0 [] => true
  | .emp => true
  | .ref .. => true
  | _ => false
inductive Ent where
  | box (b : Nat) (cells : List T)
  | frt (z : Bool) (w : Nat) (t v : T)
  | own (z : Bool) (w : Nat) (t v : T)
  | keep (F : List Nat) (σk : St)
  | flt (w : Nat) (t v : T)
def EntOk (σ : St) : Ent → List Nat → Prop
  | .box b cells, S => S = [b] ∧ ∃ B, σ.blk b = some B ∧ B.cells = cells ∧ B.ep = 0 ∧ B.low = 0 ∧ B.st = true
  | .frt z w t v, S => (isTop t = true ∧ (∀ b e o n B, t = .ref b e o n → σ.blk b = some B → w ≠ 0 → B.esz = w) ∧ ∃ k, hold z σ k t = some (v, S)) ∨ (v = .row false 0 [] ∧ ∃ b B, t = .ref b B.ep 0 0 ∧ S = [b] ∧ σ.blk b = some B ∧ B.st = true ∧ B.low ≤ B.ep ∧ B.esz = w ∧ w ≠ 0)
  | .own z w t v, S => isTop t = true ∧ (∀ b e o n B, t = .ref b e o n → σ.blk b = some B → w ≠ 0 → B.esz = w) ∧ ∃ k, hold z σ k t = some (v, S)
  | .keep F σk, S => S = F ∧ ∀ b ∈ F, σ.blk b = σk.blk b ∧ (σ.blk b).isSome = true
  | .flt w t v, S => (t = .row true 0 [] ∧ v = .row true 0 [] ∧ S = []) ∨ (t = .emp ∧ v = .row false 0 [] ∧ S = []) ∨ ∃ b B n, t = .ref b B.ep 0 n ∧ v = .row false n (B.cells.take (n * w)) ∧ S = [b] ∧ σ.blk b = some B ∧ B.st = true ∧ B.low ≤ B.ep ∧ B.esz = w ∧ w ≠ 0 ∧ n * w ≤ B.cells.length
theorem OwnOk.same {σ σ' : St} {z : Bool} {w : Nat} {t v : T} {S : List Nat} (h : isTop t = true ∧ (∀ b e o n B, t = .ref b e o n → σ.blk b = some B → w ≠ 0 → B.esz = w) ∧ ∃ k, hold z σ k t = some (v, S)) (hS : ∀ b ∈ S, σ'.blk b = σ.blk b) :
    isTop t = true ∧ (∀ b e o n B, t = .ref b e o n → σ'.blk b = some B → w ≠ 0 → B.esz = w) ∧ ∃ k, hold z σ' k t = some (v, S) := by
  obtain ⟨h1, h3, k, h2⟩ := h
  refine ⟨h1, fun b e o n B ht hB hw0 => ?_, k, hold_same k t v S hS h2⟩
  subst ht
  cases k with
  | zero => simp [hold] at h2
  | succ k =>
    simp only [hold] at h2
    obtain ⟨B', hb, h4⟩ := Option.bind_eq_some_iff.1 h2
    split at h4
    · obtain ⟨q, _, h5⟩ := Option.map_eq_some_iff.1 h4
      injection h5 with _ h5
      rw [hS b (by rw [← h5]; simp)] at hB
      exact h3 b e o n B rfl hB hw0
    · cases h4
theorem EntOk.same {σ σ' : St} {e : Ent} {S : List Nat} (h : EntOk σ e S) (hS : ∀ b ∈ S, σ'.blk b = σ.blk b) : EntOk σ' e S := by
  cases e with
  | box b cells => obtain ⟨rfl, B, h1, h2⟩ := h; exact ⟨rfl, B, by rw [hS b (by simp), h1], h2⟩
  | frt z w t v =>
    rcases h with h | ⟨rfl, b, B, rfl, rfl, h1, h2⟩
    · exact .inl (OwnOk.same h hS)
    · exact .inr ⟨rfl, b, B, rfl, rfl, by rw [hS b (by simp), h1], h2⟩
  | keep F σk => obtain ⟨rfl, h1⟩ := h; exact ⟨rfl, fun b hb => by rw [hS b hb]; exact h1 b hb⟩
  | flt w t v =>
    rcases h with h | h | ⟨b, B, n, h1, h2, rfl, h3, h4⟩
    · exact .inl h
    · exact .inr (.inl h)
    · exact .inr (.inr ⟨b, B, n, h1, h2, rfl, by rw [hS b (by simp), h3], h4⟩)
  | own z w t v => exact OwnOk.same h hS
def HeapR (σ : St) : List Ent → List Nat → Prop
  | [], F => F = []
  | e :: es, F => ∃ S F', F = S ++ F' ∧ EntOk σ e S ∧ HeapR σ es F'
theorem HeapR.same {σ σ' : St} : ∀ {es : List Ent} {F : List Nat}, HeapR σ es F → (∀ b ∈ F, σ'.blk b = σ.blk b) → HeapR σ' es F
  | [], F, h, _ => h
  | e :: es, F, h, hS => by
    obtain ⟨S, F', rfl, h1, h2⟩ := h
    exact ⟨S, F', rfl, h1.same fun b hb => hS b (by simp [hb]), h2.same fun b hb => hS b (by simp [hb])⟩
theorem HeapR.split {σ : St} : ∀ {es1 es2 : List Ent} {F : List Nat}, HeapR σ (es1 ++ es2) F → ∃ F1 F2, F = F1 ++ F2 ∧ HeapR σ es1 F1 ∧ HeapR σ es2 F2
  | [], es2, F, h => ⟨[], F, rfl, rfl, h⟩
  | e :: es1, es2, F, h => by
    obtain ⟨S, F', rfl, h1, h2⟩ := h
    obtain ⟨F1, F2, rfl, h3, h4⟩ := h2.split
    exact ⟨S ++ F1, F2, by simp, ⟨S, F1, rfl, h1, h3⟩, h4⟩
theorem HeapR.join {σ : St} : ∀ {es1 es2 : List Ent} {F1 F2 : List Nat}, HeapR σ es1 F1 → HeapR σ es2 F2 → HeapR σ (es1 ++ es2) (F1 ++ F2)
  | [], es2, F1, F2, h1, h2 => by cases h1; exact h2
  | e :: es1, es2, F1, F2, h1, h2 => by
    obtain ⟨S, F', rfl, h3, h4⟩ := h1
    exact ⟨S, F' ++ F2, by simp, h3, h4.join h2⟩
theorem HeapR.perm {σ : St} {es es' : List Ent} (hp : es.Perm es') : ∀ {F : List Nat}, HeapR σ es F → ∃ F', F.Perm F' ∧ HeapR σ es' F' := by
  induction hp with
  | nil => intro F h; exact ⟨F, .refl _, h⟩
  | cons e _ ih =>
    intro F h
    obtain ⟨S, F', rfl, h1, h2⟩ := h
    obtain ⟨F2, h3, h4⟩ := ih h2
    exact ⟨S ++ F2, h3.append_left S, S, F2, rfl, h1, h4⟩
  | swap e1 e2 l =>
    intro F h
    obtain ⟨S, F', rfl, h1, S2, F2, rfl, h2, h3⟩ := h
    refine ⟨S2 ++ (S ++ F2), ?_, S2, S ++ F2, rfl, h2, S, F2, rfl, h1, h3⟩
    rw [← List.append_assoc, ← List.append_assoc]
    exact List.Perm.append_right _ List.perm_append_comm
  | trans _ _ ih1 ih2 =>
    intro F h
    obtain ⟨F1, h1, h2⟩ := ih1 h
    obtain ⟨F2, h3, h4⟩ := ih2 h2
    exact ⟨F2, h1.trans h3, h4⟩
structure Heap (σ0 σ : St) (es : List Ent) : Prop where
  grow : Grow σ0 σ
  ex : ∃ F, HeapR σ es F ∧ F.Nodup ∧ ∀ b ∈ F, σ0.next ≤ b ∧ b < σ.next
theorem Heap.nil (σ : St) : Heap σ σ [] := ⟨.refl σ, [], rfl, by simp, by simp⟩
theorem Heap.perm {σ0 σ : St} {es es' : List Ent} (h : Heap σ0 σ es) (hp : es.Perm es') : Heap σ0 σ es' := by
  obtain ⟨F, h1, h2, h3⟩ := h.ex
  obtain ⟨F', h4, h5⟩ := h1.perm hp
  exact ⟨h.grow, F', h5, (h4.nodup_iff).1 h2, fun b hb => h3 b (h4.mem_iff.2 hb)⟩
theorem Heap.step {σ0 σ σ' : St} {es1 es2 es : List Ent} (h : Heap σ0 σ (es1 ++ es)) (hn : σ.next ≤ σ'.next)
    (hx : ∀ S, HeapR σ es1 S → S.Nodup → (∀ b ∈ S, σ0.next ≤ b ∧ b < σ.next) → ∃ S', HeapR σ' es2 S' ∧ S'.Nodup ∧ (∀ b ∈ S', b ∈ S ∨ (σ.next ≤ b ∧ b < σ'.next)) ∧ ∀ b, b < σ.next → b ∉ S → σ'.blk b = σ.blk b) : Heap σ0 σ' (es2 ++ es) := by
  obtain ⟨F, h1, h2, h3⟩ := h.ex
  obtain ⟨S, F', rfl, h4, h5⟩ := h1.split
  obtain ⟨n1, n2, n3⟩ := List.nodup_append.1 h2
  obtain ⟨S', k1, k2, k3, k4⟩ := hx S h4 n1 fun b hb => h3 b (by simp [hb])
  have hF : ∀ b ∈ F', b < σ.next ∧ b ∉ S := fun b hb => ⟨(h3 b (by simp [hb])).2, fun hs => n3 b hs b hb rfl⟩
  refine ⟨⟨Nat.le_trans h.grow.nx hn, fun i hi => ?_⟩, S' ++ F', k1.join (h5.same fun b hb => k4 b (hF b hb).1 (hF b hb).2), ?_, fun b hb => ?_⟩
  · rw [k4 i (Nat.lt_of_lt_of_le hi h.grow.nx) (fun hs => by have := (h3 i (by simp [hs])).1; omega), h.grow.old i hi]
  · refine List.nodup_append.2 ⟨k2, n2, fun a ha b hb => ?_⟩
    rintro rfl
    rcases k3 a ha with hs | ⟨hs, _⟩
    · exact (hF a hb).2 hs
    · have := (hF a hb).1; omega
  · rcases List.mem_append.1 hb with hb | hb
    · rcases k3 b hb with hs | ⟨hs, hs2⟩
      · have := h3 b (by simp [hs]); exact ⟨this.1, by omega⟩
      · exact ⟨by have := h.grow.nx; omega, hs2⟩
    · have := h3 b (by simp [hb]); exact ⟨this.1, by omega⟩
theorem hold_some {z : Bool} {σ : St} {d : Nat} {t v : T} {S : List Nat} (h : hold z σ d t = some (v, S)) : ∀ b ∈ S, (σ.blk b).isSome = true := fun b hb => by
  cases hc : σ.blk b with
  | some B => rfl
  | none => exact absurd hb (frz_fm (B := mkBlk [] 0) hc d _ _ (hold_frz d t v S h)).2
theorem HeapR.some {σ : St} : ∀ {es : List Ent} {F : List Nat}, HeapR σ es F → ∀ b ∈ F, (σ.blk b).isSome = true
  | [], F, h, b, hb => by cases h; cases hb
  | e :: es, F, h, b, hb => by
    obtain ⟨S, F', rfl, h1, h2⟩ := h
    rcases List.mem_append.1 hb with hb | hb
    · cases e with
      | box b' cells => obtain ⟨rfl, B, h1, _⟩ := h1; simp at hb; subst hb; rw [h1]; rfl
      | frt z w t v =>
        rcases h1 with ⟨_, _, k, h1⟩ | ⟨rfl, b', B, rfl, rfl, h1, _⟩
        · exact hold_some h1 b hb
        · simp at hb; subst hb; rw [h1]; rfl
      | own z w t v => obtain ⟨_, _, k, h1⟩ := h1; exact hold_some h1 b hb
      | keep F σk => obtain ⟨rfl, h1⟩ := h1; exact (h1 b hb).2
      | flt w t v =>
        rcases h1 with ⟨_, _, rfl⟩ | ⟨_, _, rfl⟩ | ⟨b', B, n, _, _, rfl, h3, _⟩
        · cases hb
        · cases hb
        · simp at hb; subst hb; rw [h3]; rfl
    · exact h2.some b hb
theorem Heap.stepN {σ0 σ σ' : St} {es1 es2 es : List Ent} (h : Heap σ0 σ (es1 ++ es)) (hn : σ.next ≤ σ'.next) (hg : ∀ b, b < σ0.next → σ'.blk b = σ.blk b)
    (hx : ∀ S, HeapR σ es1 S → S.Nodup → (∀ b ∈ S, σ0.next ≤ b ∧ b < σ.next) → ∃ S', HeapR σ' es2 S' ∧ S'.Nodup ∧ (∀ b ∈ S', b ∈ S ∨ (σ0.next ≤ b ∧ b < σ'.next ∧ (σ.next ≤ b ∨ σ.blk b = none))) ∧ ∀ b, b < σ.next → (σ.blk b).isSome = true → b ∉ S → σ'.blk b = σ.blk b) : Heap σ0 σ' (es2 ++ es) := by
  obtain ⟨F, h1, h2, h3⟩ := h.ex
  obtain ⟨S, F', rfl, h4, h5⟩ := h1.split
  obtain ⟨n1, n2, n3⟩ := List.nodup_append.1 h2
  obtain ⟨S', k1, k2, k3, k4⟩ := hx S h4 n1 fun b hb => h3 b (by simp [hb])
  have hF : ∀ b ∈ F', b < σ.next ∧ b ∉ S ∧ (σ.blk b).isSome = true := fun b hb => ⟨(h3 b (by simp [hb])).2, fun hs => n3 b hs b hb rfl, h5.some b hb⟩
  refine ⟨⟨Nat.le_trans h.grow.nx hn, fun i hi => by rw [hg i hi, h.grow.old i hi]⟩, S' ++ F', k1.join (h5.same fun b hb => k4 b (hF b hb).1 (hF b hb).2.2 (hF b hb).2.1), ?_, fun b hb => ?_⟩
  · refine List.nodup_append.2 ⟨k2, n2, fun a ha b hb => ?_⟩
    rintro rfl
    obtain ⟨f1, f2, f3⟩ := hF a hb
    rcases k3 a ha with hs | ⟨_, _, hs | hs⟩
    · exact f2 hs
    · omega
    · rw [hs] at f3; cases f3
  · rcases List.mem_append.1 hb with hb | hb
    · rcases k3 b hb with hs | ⟨hs, hs2, _⟩
      · have := h3 b (by simp [hs]); exact ⟨this.1, by omega⟩
      · exact ⟨hs, hs2⟩
    · have := h3 b (by simp [hb]); exact ⟨this.1, by omega⟩
theorem Heap.drop {σ0 σ : St} {e : Ent} {es : List Ent} (h : Heap σ0 σ (e :: es)) : Heap σ0 σ es :=
  Heap.step (es1 := [e]) (es2 := []) (es := es) h (Nat.le_refl _) fun S _ _ _ => ⟨[], rfl, by simp, by simp, fun _ _ _ => rfl⟩
def pullL (i : Nat) (es : List Ent) : List Ent := match es[i]? with
  | some e => e :: es.eraseIdx i
  | none => es
theorem Heap.pull {σ0 σ : St} {es : List Ent} (h : Heap σ0 σ es) (i : Nat) : Heap σ0 σ (pullL i es) := by
  unfold pullL
  split
  · rename_i e he
    obtain ⟨hi, rfl⟩ := List.getElem?_eq_some_iff.1 he
    refine h.perm ?_
    have key : ∀ (l : List Ent) (i : Nat) (hi : i < l.length), l.Perm (l[i] :: l.eraseIdx i) := by
      intro l
      induction l with
      | nil => intro i hi; simp at hi
      | cons a l ih =>
        intro i hi
        cases i with
        | zero => exact .refl _
        | succ i => exact ((ih i (by simpa using hi)).cons a).trans (.swap _ _ _)
    exact key es i hi
  · exact h
theorem Heap.box {σ0 σ : St} {es : List Ent} (h : Heap σ0 σ es) (cells : List T) (n : Nat) : Heap σ0 (σ.pushK none (mkBlk cells n)) (.box σ.next cells :: es) :=
  Heap.step (es1 := []) (es2 := [.box σ.next cells]) (es := es) h (by simp) fun S _ _ _ => ⟨[σ.next], ⟨[σ.next], [], rfl, ⟨rfl, mkBlk cells n, by simp, rfl, rfl, rfl, rfl⟩, rfl⟩, by simp, fun b hb => by simp at hb; subst hb; exact .inr ⟨Nat.le_refl _, by simp⟩, fun b hb _ => by rw [push_blk, if_neg (by omega)]⟩
theorem okK_free {σ : St} {k : Option Nat} (h : σ.okK k = true) : σ.next ≤ σ.nid k ∨ (σ.blk (σ.nid k) = none ∧ σ.nid k < σ.next) := by
  cases k with
  | none => exact .inl (Nat.le_refl _)
  | some i =>
    simp only [St.okK, Bool.and_eq_true, decide_eq_true_eq, Option.isNone_iff_eq_none] at h
    exact .inr h
theorem nid_ltK {σ : St} {k : Option Nat} {B : Blk} (h : σ.okK k = true) : σ.nid k < (σ.pushK k B).next := by
  cases k with
  | none => simp [St.nid, St.pushK]
  | some i => simp only [St.okK, Bool.and_eq_true, decide_eq_true_eq] at h; exact h.2
theorem pushK_nx {σ : St} {k : Option Nat} {B : Blk} : σ.next ≤ (σ.pushK k B).next := by cases k <;> simp [St.pushK]
theorem pushK_blk {σ : St} {k : Option Nat} {B : Blk} {i : Nat} : (σ.pushK k B).blk i = if i = σ.nid k then some B else σ.blk i := rfl
theorem pushK_old {σ : St} {k : Option Nat} {B : Blk} {y : Nat} (hk : σ.okK k = true) (h : (σ.blk y).isSome = true) (hy : y < σ.next) : (σ.pushK k B).blk y = σ.blk y := by
  rw [pushK_blk, if_neg]
  rintro rfl
  rcases okK_free hk with hf | ⟨hf, _⟩
  · omega
  · rw [hf] at h; cases h
theorem Heap.boxK {σ0 σ : St} {es : List Ent} (h : Heap σ0 σ es) {k : Option Nat} (hk : σ.okK k = true) (hb : ∀ i, k = some i → σ0.next ≤ i) (cells : List T) (n : Nat) : Heap σ0 (σ.pushK k (mkBlk cells n)) (.box (σ.nid k) cells :: es) := by
  have h0 : σ0.next ≤ σ.nid k := by
    cases k with
    | none => exact h.grow.nx
    | some i => exact hb i rfl
  have hf := okK_free hk
  refine Heap.stepN (es1 := []) (es2 := [.box (σ.nid k) cells]) (es := es) h pushK_nx (fun b hb' => by rw [pushK_blk, if_neg (by omega)]) fun S _ _ _ => ⟨[σ.nid k], ⟨[σ.nid k], [], rfl, ⟨rfl, mkBlk cells n, by rw [pushK_blk, if_pos rfl], rfl, rfl, rfl, rfl⟩, rfl⟩, by simp, fun b hb' => ?_, fun b hb' hs _ => ?_⟩
  · simp only [List.mem_singleton] at hb'; subst hb'
    exact .inr ⟨h0, nid_ltK hk, hf.imp id fun h => h.1⟩
  · rw [pushK_blk, if_neg]
    rintro rfl
    rcases hf with hf | ⟨hf, _⟩
    · omega
    · rw [hf] at hs; cases hs
theorem Heap.look {σ0 σ : St} {b : Nat} {cells : List T} {es : List Ent} (h : Heap σ0 σ (.box b cells :: es)) : ∃ B, σ.blk b = some B ∧ B.cells = cells ∧ B.ep = 0 ∧ B.low = 0 ∧ B.st = true := by
  obtain ⟨F, ⟨S, F', _, ⟨_, h1⟩, _⟩, _⟩ := h.ex
  exact h1
theorem Heap.put {σ0 σ : St} {b : Nat} {cells cells' : List T} {es : List Ent} (h : Heap σ0 σ (.box b cells :: es)) {B : Blk} (h1 : B.cells = cells') (h2 : B.ep = 0) (h3 : B.low = 0) (h4 : B.st = true) : Heap σ0 (σ.set b B) (.box b cells' :: es) :=
  Heap.step (es1 := [.box b cells]) (es2 := [.box b cells']) (es := es) h (by simp) fun S hS _ _ => by
    obtain ⟨S1, F', rfl, ⟨rfl, _⟩, rfl⟩ := hS
    exact ⟨[b], ⟨[b], [], rfl, ⟨rfl, B, by simp, h1, h2, h3, h4⟩, rfl⟩, by simp, fun x hx => .inl (by simpa using hx), fun x _ hx => by simp at hx; rw [set_blk, if_neg hx]⟩
end Go.Am
end
section
set_option linter.unusedVariables false
set_option linter.unusedSimpArgs false
namespace Go.Am
open Classical
def get : List (Nat × T) → Nat → Option T
  | [], _ => none
  | (i, v) :: l, j => match Nat.beq i j with
    | true => some v
    | false => get l j
def Sub (L : List (Nat × T)) (s : Nat → T) : Prop := ∀ j v, get L j = some v → s j = v
theorem sub_cons {L : List (Nat × T)} {s : Nat → T} {j : Nat} {v : T} (h : Sub L s) (k : s j = v) : Sub ((j, v) :: L) s := fun i u hi => by
  simp only [get] at hi
  split at hi
  · rename_i e; rw [Nat.eq_of_beq_eq_true e] at k; injection hi with hi; rw [k, hi]
  · exact h i u hi
theorem sub_put {L : List (Nat × T)} {s : Nat → T} (h : Sub L s) (d : Nat) (v : T) : Sub ((d, v) :: L) (fun j => if j = d then v else s j) := fun i u hi => by
  simp only [get] at hi
  split at hi
  · rename_i e; rw [Nat.eq_of_beq_eq_true e]; injection hi with hi; simp [hi]
  · rename_i e
    have hne : i ≠ d := fun x => by subst x; rw [Nat.beq_refl] at e; cases e
    simp only [if_neg hne]; exact h i u hi
theorem get_mem : ∀ {L : List (Nat × T)} {j : Nat} {v : T}, get L j = some v → (j, v) ∈ L
  | [], _, _, h => by cases h
  | (i, u) :: L, j, v, h => by
    simp only [get] at h
    split at h
    · rename_i e; injection h with h; rw [← Nat.eq_of_beq_eq_true e, h]; simp
    · exact List.mem_cons_of_mem _ (get_mem h)
theorem sub_to {L L' : List (Nat × T)} {s : Nat → T} (h : Sub L s) (k : (L'.map fun p => get L p.1) = L'.map fun p => some p.2) : Sub L' s := fun j v hj => by
  have hm := get_mem hj
  obtain ⟨n, hn, e⟩ := List.getElem_of_mem hm
  have : (L'.map fun p => get L p.1)[n]? = (L'.map fun p => some p.2)[n]? := by rw [k]
  simp [hn, e] at this
  exact h j v this
def gE (g : Nat → Option T) : Operand → Option T
  | .tmp t => g t
  | .const v => T.ofV' v
  | .func f => some (.fn f [] [])
  | .global _ => none
def gEs (g : Nat → Option T) : List Operand → Option (List T)
  | [] => some []
  | x :: xs => match gE g x with
    | some v => match gEs g xs with
      | some vs => some (v :: vs)
      | none => none
    | none => none
def gPs (g : Nat → Option T) : List (Nat × Operand) → Option (List (Nat × T))
  | [] => some []
  | (i, x) :: xs => match gE g x with
    | some v => match gPs g xs with
      | some vs => some ((i, v) :: vs)
      | none => none
    | none => none
theorem gE_sound {g : Nat → Option T} {s : Nat → T} (hg : ∀ j v, g j = some v → s j = v) {x : Operand} {v : T} (h : gE g x = some v) : evalO s x = some v := by
  cases x with
  | tmp t => simp only [evalO]; rw [hg t v h]
  | const u => exact h
  | func f => exact h
  | global u => cases h
theorem gEs_sound {g : Nat → Option T} {s : Nat → T} (hg : ∀ j v, g j = some v → s j = v) : ∀ {xs : List Operand} {vs : List T}, gEs g xs = some vs → evals s xs = some vs
  | [], _, h => h
  | x :: xs, vs, h => by
    simp only [gEs] at h
    split at h
    · rename_i v hv
      split at h
      · rename_i us hu
        simp only [evals, gE_sound hg hv, gEs_sound hg hu, Option.bind_some, Option.map_some]; exact h
      · cases h
    · cases h
theorem gPs_sound {g : Nat → Option T} {s : Nat → T} (hg : ∀ j v, g j = some v → s j = v) : ∀ {xs : List (Nat × Operand)} {vs : List (Nat × T)}, gPs g xs = some vs → evalPs s xs = some vs
  | [], _, h => h
  | (i, x) :: xs, vs, h => by
    simp only [gPs] at h
    split at h
    · rename_i v hv
      split at h
      · rename_i us hu
        simp only [evalPs, gE_sound hg hv, gPs_sound hg hu, Option.bind_some, Option.map_some]; exact h
      · cases h
    · cases h
def okP (P : Program) (t : TypeId) : Bool := Nat.beq (kindT P t) 7 && (fieldsT P t).all fun f => (szOf P f.type).isSome
def pOp (P : Program) (g : Nat → Option T) : Op → Option T
  | .move x => gE g x
  | .assign x => gE g x
  | .pick c a b => match gE g c with
    | some (.bool true) => gE g a
    | some (.bool false) => gE g b
    | _ => none
  | .build t parts => match zeroOf P t with
    | some z => match gPs g parts.toList with
      | some ps => match okP P t with
        | true => (fillA (fun i => (fieldOf P t i).map fun (o, _, n) => (o, n)) z ps).map .agg
        | false => none
      | none => none
    | none => none
  | .load t a => match gE g a with
    | some (.vw cs) => part P t cs 0
    | _ => none
  | .nilCheck x => match gE g x with
    | some (.ptr b e o m) => some (.ptr b e o m)
    | some (.vw cs) => some (.vw cs)
    | some (.fn f a b) => some (.fn f a b)
    | _ => none
  | .binOp op t x y _ => match gE g x with
    | some x => match gE g y with
      | some y => binA P op t x y
      | none => none
    | none => none
  | .unOp op _ x => match gE g x with
    | some x => unA op x
    | none => none
  | .convert src dst x => match gE g x with
    | some (.int _ n) => match isIntT P src with
      | true => match P.underlying dst with
        | some (.int k) => some (.int k (k.wrap n))
        | _ => none
      | false => none
    | _ => none
  | .makeFunc (.func f) first caps => match gEs g first.toList with
    | some a => match gEs g caps.toList with
      | some b => some (.fn f a b)
      | none => none
    | none => none
  | .fieldAddr t x f => match gE g x with
    | some x => match fieldOf P t f with
      | some (off, _, n) => match x with
        | .ptr b e o m => if n = 0 then none else if off + n ≤ m then some (.ptr b e (o + off) n) else none
        | .vw cs => if n = 0 then none else if off + n ≤ cs.length then some (.vw (cs.drop off)) else none
        | _ => none
      | none => none
    | none => none
  | .field t x f => match gE g x with
    | some (.agg cs) => match fieldOf P t f with
      | some (off, ft, _) => part P ft cs off
      | none => none
    | _ => none
  | .extract x i => match gE g x with
    | some (.tup cs) => cs[i]?
    | _ => none
  | .call c => match c.callee with
    | .builtin .len => match gEs g c.args.toList with
      | some [x] => match c.argTypes.toList with
        | [t] => lenA P ⟨0, fun _ => none⟩ t x
        | _ => none
      | _ => none
    | _ => none
  | _ => none
theorem lenA_st (P : Program) (σ σ' : St) (t : TypeId) (x : T) : lenA P σ t x = lenA P σ' t x := by cases x <;> rfl
theorem pOp_sound {P : Program} {g : Nat → Option T} {s : Nat → T} (hg : ∀ j v, g j = some v → s j = v) {op : Op} {v : T} (h : pOp P g op = some v) (k : Option Nat) (σ : St) (d : Option Nat) (ty : TypeId) (ps : String) (af : Array Edge) (gd : Option (Nat × Bool)) :
    aOp P k ⟨s, σ⟩ ⟨d, op, ty, ps, af, gd⟩ = some (.val v σ) := by
  unfold pOp at h
  split at h
  · rw [a_move, gE_sound hg h]; rfl
  · rw [a_assign, gE_sound hg h]; rfl
  · rename_i c a b
    split at h
    · rename_i hc; rw [a_pick, gE_sound hg hc]; simp [gE_sound hg h]
    · rename_i hc; rw [a_pick, gE_sound hg hc]; simp [gE_sound hg h]
    · cases h
  · rename_i t parts
    split at h
    · rename_i z hz
      split at h
      · rename_i p hp
        split at h
        · rename_i hk
          simp only [okP, Bool.and_eq_true] at hk
          rw [a_build, hz, Option.bind_some, gPs_sound hg hp, Option.bind_some, buildA, if_pos ⟨Nat.eq_of_beq_eq_true hk.1, hk.2⟩, h]; rfl
        · cases h
      · cases h
    · cases h
  · split at h
    · rename_i cs hc; rw [a_load, gE_sound hg hc, Option.bind_some, loadA_vw, h]; rfl
    · cases h
  · split at h
    · rename_i hc; injection h with h; subst h; rw [a_nilCheck, gE_sound hg hc]; rfl
    · rename_i hc; injection h with h; subst h; rw [a_nilCheck, gE_sound hg hc]; rfl
    · rename_i hc; injection h with h; subst h; rw [a_nilCheck, gE_sound hg hc]; rfl
    · cases h
  · split at h
    · rename_i x hx
      split at h
      · rename_i y hy; rw [a_binOp, gE_sound hg hx, Option.bind_some, gE_sound hg hy, Option.bind_some, h]; rfl
      · cases h
    · cases h
  · split at h
    · rename_i x hx; rw [a_unOp, gE_sound hg hx, Option.bind_some, h]; rfl
    · cases h
  · split at h
    · rename_i hx
      split at h
      · rename_i hk
        split at h
        · rename_i k2 hu
          injection h with h; subst h
          rw [a_convert, gE_sound hg hx, Option.bind_some, convA_int, if_pos hk, hu]; rfl
        · cases h
      · cases h
    · cases h
  · split at h
    · rename_i a ha
      split at h
      · rename_i b hb; injection h with h; subst h; rw [a_makeFunc, gEs_sound hg ha, Option.bind_some, gEs_sound hg hb]; rfl
      · cases h
    · cases h
  · split at h
    · rename_i x hx
      split at h
      · rename_i off ft n hf
        split at h
        · rename_i b e o m
          rw [a_fieldAddr, gE_sound hg hx, Option.bind_some, hf, Option.bind_some, fAddrA_ptr]
          split at h
          · cases h
          · rename_i h0
            split at h
            · rename_i h1; injection h with h; subst h; rw [if_neg h0, if_pos h1]
            · cases h
        · rename_i cs
          rw [a_fieldAddr, gE_sound hg hx, Option.bind_some, hf, Option.bind_some, fAddrA_vw]
          split at h
          · cases h
          · rename_i h0
            split at h
            · rename_i h1; injection h with h; subst h; rw [if_neg h0, if_pos h1]
            · cases h
        · cases h
      · cases h
    · cases h
  · split at h
    · rename_i cs hx
      split at h
      · rename_i off ft n hf; rw [a_field, gE_sound hg hx, Option.bind_some, hf, Option.bind_some, fieldA_agg, h]; rfl
      · cases h
    · cases h
  · split at h
    · rename_i cs hx; rw [a_extract, gE_sound hg hx, Option.bind_some, a_extract_tup, h]; rfl
    · cases h
  · rename_i c
    split at h
    · rename_i hc
      split at h
      · rename_i x hx
        split at h
        · rename_i t ht
          obtain ⟨callee, args, ts⟩ := c
          simp only at hc hx ht
          subst hc
          rw [a_len, gEs_sound hg hx, Option.bind_some, ht, lenR_eq, lenA_st P σ ⟨0, fun _ => none⟩, h]; rfl
        · cases h
      · cases h
    · cases h
  · cases h
def want (ops : Array Oper) (L : List (Nat × T)) (g : Option (Nat × Bool)) : Option Bool :=
  match g with
  | none => some true
  | some (j, w) => match ops[j]? with
    | some o => match o.dst with
      | some d => match get L d with
        | some (.bool b) => some (b == w)
        | some (.tup _) => some false
        | _ => none
      | none => none
    | none => none
theorem want_sound {ops : Array Oper} {L : List (Nat × T)} {s : Nat → T} (hS : Sub L s) {o : Oper} {b : Bool} (h : want ops L o.guard = some b) : wantedA ops o s = b := by
  unfold want at h
  unfold wantedA
  split at h
  · rename_i e; injection h with h; subst h; simp [e]
  · rename_i j w e
    split at h
    · rename_i o2 ho
      split at h
      · rename_i d hd
        split at h
        · rename_i b2 hb
          injection h with h; subst h
          simp only [e, ho, Option.bind_some, hd, hS _ _ hb]
        · rename_i b2 hb
          injection h with h; subst h
          simp only [e, ho, Option.bind_some, hd, hS _ _ hb]
        · cases h
      · cases h
    · cases h
structure Cmp where
  vw : Nat → Bool
  cm : Nat → Bool
  ck : Nat → Nat → Bool
  wk : Nat → Nat → Bool
inductive Mo where
  | q
  | d (b i : Nat)
  | c (b i : Nat) (W : Nat → Nat → Prop) (σs : St) (cm : Cmp)
def Wc : List (Nat × (Nat → Prop)) → Nat → Nat → Prop
  | [], _, _ => False
  | (k, R) :: l, c, x => bif Nat.beq k c then ¬ R x else Wc l c x
theorem Wc.nil {ck : Nat → Bool} {x : Nat} : ∀ c, ck c = false → ¬ Wc [] c x := fun _ _ h => h
theorem Wc.cons {ck : Nat → Bool} {x k : Nat} {R : Nat → Prop} {l : List (Nat × (Nat → Prop))} (h : ck k = true ∨ R x) (t : ∀ c, ck c = false → ¬ Wc l c x) : ∀ c, ck c = false → ¬ Wc ((k, R) :: l) c x := fun c hc hw => by
  unfold Wc at hw
  cases hk : Nat.beq k c with
  | true =>
    rw [hk] at hw
    have := Nat.eq_of_beq_eq_true hk
    subst this
    rcases h with h | h
    · rw [h] at hc; cases hc
    · exact hw h
  | false => rw [hk] at hw; exact t c hc hw
def BT (t : T) (x : Nat) : Prop := ∃ e o n, t = .ref x e o n
def RN : Nat → Prop := fun _ => False
def RB (b : Nat) (R : Nat → Prop) : Nat → Prop := fun x => x = b ∨ R x
def RT (t : T) (R : Nat → Prop) : Nat → Prop := fun x => BT t x ∨ R x
def OldEq (b : Nat) (W : Nat → Nat → Prop) (σs σ : St) : Prop := b ≤ σ.next ∧ ∀ x, x < b → (∀ c, ¬ W c x) → σ.blk x = σs.blk x
def Room (b i m : Nat) (σ : St) : Prop := b + i + m ≤ σ.next ∧ ∀ j, j < m → σ.blk (b + i + j) = none
theorem Room.nxt {b i m : Nat} {σ : St} (h : Room b i (m + 1) σ) : Room b (i + 1) m σ := ⟨by have := h.1; omega, fun j hj => by rw [show b + (i + 1) + j = b + i + (j + 1) by omega]; exact h.2 (j + 1) (by omega)⟩
def Mo.al : Mo → St → St → Prop
  | .c b i W σs cm, σ, σ' => (cm.cm i = true → σ' = σ) ∧ (∀ x, x < b → (∀ c, cm.ck c i = false → ¬ W c x) → σ'.blk x = σ.blk x) ∧ OldEq b W σs σ' ∧ OldEq b W σs σ
  | _, σ, σ' => σ' = σ
def Mo.lt : Mo → Nat → Prop
  | .c b i W _ cm, x => cm.cm i = true ∨ (x < b ∧ ∀ c, cm.ck c i = false → ¬ W c x)
  | _, _ => True
def Mo.wr : Mo → Nat → Prop
  | .c b i W _ cm, x => b ≤ x ∨ ∃ c, cm.wk c i = true ∧ W c x
  | _, _ => True
def Mo.nw : Mo → Nat → Prop
  | .c b _ _ _ _, x => b ≤ x
  | _, _ => True
def Mo.base : Mo → St → Prop
  | .c b _ _ _ _, σ0 => σ0.next ≤ b
  | _, _ => True
def Mo.seq : Mo → Bool
  | .c _ i _ _ cm => cm.cm i
  | _ => true
def Mo.chg : Mo → Bool
  | .d .. => false
  | .c _ i _ _ cm => !cm.vw i
  | .q => true
def Mo.vw : Mo → Bool
  | .c _ i _ _ cm => cm.vw i
  | _ => false
theorem Mo.al_blk {m : Mo} {σ σ' : St} {b : Nat} (h : m.al σ σ') (k : m.lt b) : σ'.blk b = σ.blk b := by
  cases m with
  | c b' i W σs cm =>
    rcases k with k | ⟨k1, k⟩
    · rw [h.1 k]
    · rw [h.2.1 b k1 k]
  | q => rw [show σ' = σ from h]
  | d b i => rw [show σ' = σ from h]
theorem Mo.al_seq {m : Mo} {σ σ' : St} (h : m.al σ σ') (k : m.seq = true) : σ' = σ := by
  cases m with
  | c b' i W σs cm => exact h.1 k
  | q => exact h
  | d b i => exact h
def isCall : Op → Bool
  | .call c => match c.callee with
    | .builtin _ => false
    | _ => true
  | _ => false
def isChg : Op → Bool
  | .call c => match c.callee with
    | .builtin .append => true
    | .builtin _ => false
    | _ => true
  | .store .. | .alloc .. | .box .. | .buildSlice .. | .makeSlice .. => true
  | _ => false
theorem isCall_chg {op : Op} (h : isCall op = true) : isChg op = true := by
  cases op with
  | call c => simp only [isCall, isChg] at h ⊢; split at h <;> first | (cases h; done) | (split <;> first | rfl | simp_all)
  | _ => cases h
def stepO (P : Program) (O : Oracle) (ops : Array Oper) (k : Nat) (o : Oper) (s : Nat → T) (σ : St) : Option (T × St) :=
  if wantedA ops o s then
    (aOp P (some k) ⟨s, σ⟩ o).bind fun
      | .val v σ => some (v, σ)
      | .skip σ => some (.tup [], σ)
      | .call f args => O f args σ
  else some (.tup [], σ)
def opsC (P : Program) (O : Oracle) (ops : Array Oper) (b : Nat) (W : Nat → Nat → Prop) (σs : St) (cm : Cmp) : Nat → List Oper → (Fr → Prop) → Fr → Prop
  | _, [], K, fr => K fr
  | i, o :: l, K, fr => match (isChg o.op && !cm.vw i) && wantedA ops o fr.s with
    | true => ∃ v σ', stepO P O ops (b + i) o fr.s fr.σ = some (v, σ') ∧ (∀ x, x < b → (∀ c, cm.wk c i = true → ¬ W c x) → σ'.blk x = fr.σ.blk x) ∧ OldEq b W σs σ' ∧ Room b (i + 1) l.length σ' ∧ opsC P O ops b W σs cm (i + 1) l K (fr.put o.dst v σ')
    | false => ∃ v, (∀ σ', (cm.cm i = true → σ' = fr.σ) → (∀ x, x < b → (∀ c, cm.ck c i = false → ¬ W c x) → σ'.blk x = fr.σ.blk x) → OldEq b W σs σ' → stepO P O ops (b + i) o fr.s σ' = some (v, σ')) ∧ opsC P O ops b W σs cm (i + 1) l K (fr.put o.dst v fr.σ)
def opsX (P : Program) (O : Oracle) (ops : Array Oper) : Mo → List Oper → (Fr → Prop) → Fr → Prop
  | .q, l, K, fr => opsQ P O ops l K fr
  | .d b i, l, K, fr => opsD P O ops b i l K fr
  | .c b i W σs cm, l, K, fr => OldEq b W σs fr.σ → Room b i l.length fr.σ → opsC P O ops b W σs cm i l K fr
def nxM : Mo → Mo
  | .q => .q
  | .d b i => .d b (i + 1)
  | .c b i W σs cm => .c b (i + 1) W σs cm
section
variable {P : Program} {O : Oracle} {ops : Array Oper} {m : Mo} {l : List Oper} {K : Fr → Prop} {s : Nat → T} {σ σ0 : St} {L : List (Nat × T)} {es : List Ent}
variable {d : Option Nat} {ty : TypeId} {ps : String} {af : Array Edge} {g : Option (Nat × Bool)}
theorem x_nil (k : K ⟨s, σ⟩) : opsX P O ops m [] K ⟨s, σ⟩ := by
  cases m with
  | q => exact k
  | d b i => exact k
  | c b i W σs cm => exact fun _ _ => k
theorem x_val {o : Oper} {v : T} (hw : wantedA ops o s = true) (h : ∀ k σ', m.al σ σ' → aOp P k ⟨s, σ'⟩ o = some (.val v σ')) (kk : opsX P O ops (nxM m) l K (Fr.put ⟨s, σ⟩ o.dst v σ)) : opsX P O ops m (o :: l) K ⟨s, σ⟩ := by
  cases m with
  | q => show opQ P O ops none o (opsQ P O ops l K) ⟨s, σ⟩; unfold opQ; simp only [hw, cond_true, h none σ rfl]; exact kk
  | d b i => show opD P O ops (b + i) o (opsD P O ops b (i + 1) l K) ⟨s, σ⟩; unfold opD; simp only [hw, cond_true, h (some (b + i)) σ rfl]; exact ⟨rfl, kk⟩
  | c b i W σs cm =>
    intro hA hR
    have hp : (Fr.put ⟨s, σ⟩ o.dst v σ).σ = σ := by cases o.dst <;> rfl
    have kk := kk (by rw [hp]; exact hA) (by rw [hp]; exact hR.nxt)
    have hs : ∀ σ', (cm.cm i = true → σ' = σ) → (∀ x, x < b → (∀ c, cm.ck c i = false → ¬ W c x) → σ'.blk x = σ.blk x) → OldEq b W σs σ' → stepO P O ops (b + i) o s σ' = some (v, σ') := fun σ' h'' h3 h' => by simp only [stepO, hw, if_true, h (some (b + i)) σ' ⟨h'', h3, h', hA⟩, Option.bind_some]
    unfold opsC
    cases hc : (isChg o.op && !cm.vw i) && wantedA ops o s with
    | true => exact ⟨v, σ, hs σ (fun _ => rfl) (fun _ _ _ => rfl) hA, fun _ _ _ => rfl, hA, hR.nxt, kk⟩
    | false => exact ⟨v, hs, kk⟩
theorem x_off {o : Oper} (hw : wantedA ops o s = false) (kk : opsX P O ops (nxM m) l K (Fr.put ⟨s, σ⟩ o.dst (.tup []) σ)) : opsX P O ops m (o :: l) K ⟨s, σ⟩ := by
  cases m with
  | q => show opQ P O ops none o (opsQ P O ops l K) ⟨s, σ⟩; unfold opQ; simp only [hw, cond_false]; exact kk
  | d b i => show opD P O ops (b + i) o (opsD P O ops b (i + 1) l K) ⟨s, σ⟩; unfold opD; simp only [hw, cond_false]; exact kk
  | c b i W σs cm =>
    intro hA hR
    have hp : (Fr.put ⟨s, σ⟩ o.dst (.tup []) σ).σ = σ := by cases o.dst <;> rfl
    have kk := kk (by rw [hp]; exact hA) (by rw [hp]; exact hR.nxt)
    unfold opsC
    simp only [hw, Bool.and_false]
    exact ⟨.tup [], fun σ' _ _ _ => by simp [stepO, hw], kk⟩
theorem x_callC {o : Oper} {f : Nat} {args : List T} {r : T} {σ' : St} (hm : m.chg = true) (hcl : isCall o.op = true) (hw : wantedA ops o s = true) (h : ∀ k σ, aOp P k ⟨s, σ⟩ o = some (.call f args)) (hc : O f args σ = some (r, σ')) (hn : σ.next ≤ σ'.next) (ho : ∀ x, x < σ.next → σ'.blk x = σ.blk x)
    (kk : opsX P O ops (nxM m) l K (Fr.put ⟨s, σ⟩ o.dst r σ')) : opsX P O ops m (o :: l) K ⟨s, σ⟩ := by
  cases m with
  | q => show opQ P O ops none o (opsQ P O ops l K) ⟨s, σ⟩; unfold opQ; simp only [hw, cond_true, h]; exact ⟨r, σ', hc, kk⟩
  | d b i => cases hm
  | c b i W σs cm =>
    intro hA hR
    have hA' : OldEq b W σs σ' := ⟨Nat.le_trans hA.1 hn, fun x hx hx' => by rw [ho x (Nat.lt_of_lt_of_le hx hA.1), hA.2 x hx hx']⟩
    have hR' : Room b (i + 1) l.length σ' := ⟨Nat.le_trans hR.nxt.1 hn, fun j hj => by rw [ho (b + (i + 1) + j) (by have : b + (i + 1) + l.length ≤ σ.next := hR.nxt.1; omega)]; exact hR.nxt.2 j hj⟩
    have hp : (Fr.put ⟨s, σ⟩ o.dst r σ').σ = σ' := by cases o.dst <;> rfl
    have kk := kk (by rw [hp]; exact hA') (by rw [hp]; exact hR')
    have hs : stepO P O ops (b + i) o s σ = some (r, σ') := by simp only [stepO, hw, if_true, h, Option.bind_some, hc]
    have hm' : (!cm.vw i) = true := hm
    unfold opsC
    simp only [isCall_chg hcl, hm', hw, Bool.and_self]
    exact ⟨r, σ', hs, fun x hx _ => ho x (Nat.lt_of_lt_of_le hx hA.1), hA', hR', kk⟩
theorem x_call {o : Oper} {f : Nat} {args : List T} {r : T} (hcl : isCall o.op = true) (hw : wantedA ops o s = true) (h : ∀ k σ, aOp P k ⟨s, σ⟩ o = some (.call f args)) (hc : O f args σ = some (r, σ)) (hv : m.vw = true → ∀ σ, O f args σ = some (r, σ)) (kk : opsX P O ops (nxM m) l K (Fr.put ⟨s, σ⟩ o.dst r σ)) : opsX P O ops m (o :: l) K ⟨s, σ⟩ := by
  cases m with
  | d b i => show opD P O ops (b + i) o (opsD P O ops b (i + 1) l K) ⟨s, σ⟩; unfold opD; simp only [hw, cond_true, h]; exact ⟨r, hc, kk⟩
  | q => exact x_callC rfl hcl hw h hc (Nat.le_refl _) (fun _ _ => rfl) kk
  | c b i W σs cm =>
    cases hvi : cm.vw i with
    | false => exact x_callC (by show (!cm.vw i) = true; rw [hvi]; rfl) hcl hw h hc (Nat.le_refl _) (fun _ _ => rfl) kk
    | true =>
      intro hA hR
      have hp : (Fr.put ⟨s, σ⟩ o.dst r σ).σ = σ := by cases o.dst <;> rfl
      have kk := kk (by rw [hp]; exact hA) (by rw [hp]; exact hR.nxt)
      unfold opsC
      simp only [hvi, Bool.not_true, Bool.and_false, Bool.false_and]
      exact ⟨r, fun σ' _ _ _ => by simp only [stepO, hw, if_true, h, Option.bind_some, hv hvi σ'], kk⟩
def Mo.inb : Mo → Option Nat → Prop
  | .c b _ _ _ _, k => ∃ i, k = some i ∧ b ≤ i
  | _, k => k = none
def Cg (m : Mo) (k : Option Nat) (σ σ' : St) : Prop := σ.next ≤ σ'.next ∧ ∀ x, x < σ.next → k ≠ some x → σ'.blk x = σ.blk x ∨ (m.wr x ∧ (σ.blk x).isSome = true)
theorem Cg.c {b i : Nat} {W : Nat → Nat → Prop} {σs σ σ' : St} {cm : Cmp} {n : Nat} (h : Cg (.c b i W σs cm) (some (b + i)) σ σ') (hA : OldEq b W σs σ) (hR : Room b i (n + 1) σ) : (∀ x, x < b → (∀ c, cm.wk c i = true → ¬ W c x) → σ'.blk x = σ.blk x) ∧ OldEq b W σs σ' ∧ Room b (i + 1) n σ' := by
  have key : ∀ x, x < b → (∀ c, cm.wk c i = true → ¬ W c x) → σ'.blk x = σ.blk x := fun x hx hw => by
    rcases h.2 x (Nat.lt_of_lt_of_le hx hA.1) (fun e => by injection e with e; omega) with e | ⟨e | ⟨c, e1, e2⟩, _⟩
    · exact e
    · omega
    · exact absurd e2 (hw c e1)
  refine ⟨key, ⟨Nat.le_trans hA.1 h.1, fun x hx hx' => ?_⟩, ⟨Nat.le_trans hR.nxt.1 h.1, fun j hj => ?_⟩⟩
  · rw [key x hx fun c _ => hx' c, hA.2 x hx hx']
  · have hn := hR.nxt.2 j hj
    rcases h.2 (b + (i + 1) + j) (by have := hR.nxt.1; omega) (fun e => by injection e with e; omega) with e | ⟨_, e⟩
    · rw [e, hn]
    · rw [hn] at e; cases e
theorem x_newC {o : Oper} (hm : m.chg = true) (hcl : isChg o.op = true) (hw : wantedA ops o s = true) (h : ∀ k, σ.okK k = true → m.inb k → ∃ v σ', aOp P k ⟨s, σ⟩ o = some (.val v σ') ∧ Cg m k σ σ' ∧ opsX P O ops (nxM m) l K (Fr.put ⟨s, σ⟩ o.dst v σ')) : opsX P O ops m (o :: l) K ⟨s, σ⟩ := by
  cases m with
  | q =>
    obtain ⟨v, σ', h1, _, h2⟩ := h none rfl rfl
    show opQ P O ops none o (opsQ P O ops l K) ⟨s, σ⟩; unfold opQ; simp only [hw, cond_true, h1]; exact h2
  | d b i => cases hm
  | c b i W σs cm =>
    intro hA hR
    have hok : σ.okK (some (b + i)) = true := by
      have h1 := hR.1; have h2 := hR.2 0 (by simp)
      simp only [St.okK, Bool.and_eq_true, decide_eq_true_eq, Option.isNone_iff_eq_none]
      simp only [List.length_cons] at h1
      exact ⟨by simpa using h2, by omega⟩
    obtain ⟨v, σ', h1, h2, kk⟩ := h _ hok ⟨_, rfl, by omega⟩
    obtain ⟨hW', hA', hR'⟩ := h2.c hA hR
    have hp : (Fr.put ⟨s, σ⟩ o.dst v σ').σ = σ' := by cases o.dst <;> rfl
    have kk := kk (by rw [hp]; exact hA') (by rw [hp]; exact hR')
    have hs : stepO P O ops (b + i) o s σ = some (v, σ') := by simp only [stepO, hw, if_true, h1, Option.bind_some]
    have hm' : (!cm.vw i) = true := hm
    unfold opsC
    simp only [hcl, hm', hw, Bool.and_self]
    exact ⟨v, σ', hs, hW', hA', hR', kk⟩
theorem x_skipC {o : Oper} {σ' : St} (hm : m.chg = true) (hcl : isChg o.op = true) (hw : wantedA ops o s = true) (h : ∀ k, aOp P k ⟨s, σ⟩ o = some (.skip σ')) (hg : ∀ k, Cg m k σ σ') (kk : opsX P O ops (nxM m) l K (Fr.put ⟨s, σ⟩ o.dst (.tup []) σ')) : opsX P O ops m (o :: l) K ⟨s, σ⟩ := by
  cases m with
  | q => show opQ P O ops none o (opsQ P O ops l K) ⟨s, σ⟩; unfold opQ; simp only [hw, cond_true, h]; exact kk
  | d b i => cases hm
  | c b i W σs cm =>
    intro hA hR
    obtain ⟨hW', hA', hR'⟩ := (hg (some (b + i))).c hA hR
    have hp : (Fr.put ⟨s, σ⟩ o.dst (.tup []) σ').σ = σ' := by cases o.dst <;> rfl
    have kk := kk (by rw [hp]; exact hA') (by rw [hp]; exact hR')
    have hs : stepO P O ops (b + i) o s σ = some (.tup [], σ') := by simp only [stepO, hw, if_true, h, Option.bind_some]
    have hm' : (!cm.vw i) = true := hm
    unfold opsC
    simp only [hcl, hm', hw, Bool.and_self]
    exact ⟨_, σ', hs, hW', hA', hR', kk⟩
def putL (L : List (Nat × T)) (d : Option Nat) (v : T) : List (Nat × T) := match d with
  | some d => (d, v) :: L
  | none => L
theorem sub_putL (hS : Sub L s) (d : Option Nat) (v : T) (σ : St) : Sub (putL L d v) (Fr.put ⟨s, σ⟩ d v σ).s := by
  cases d with
  | none => exact hS
  | some d => exact sub_put hS d v
theorem put_eq (d : Option Nat) (v : T) (σ σ' : St) : Fr.put ⟨s, σ⟩ d v σ' = ⟨(Fr.put ⟨s, σ⟩ d v σ).s, σ'⟩ := by cases d <;> rfl
def seg (P : Program) (ops : Array Oper) : Nat → List Oper → List (Nat × T) → Option (List (Nat × T))
  | 0, _, L => some L
  | _ + 1, [], _ => none
  | n + 1, o :: l, L => match want ops L o.guard with
    | some true => match pOp P (get L) o.op with
      | some v => seg P ops n l (putL L o.dst v)
      | none => none
    | some false => seg P ops n l (putL L o.dst (.tup []))
    | none => none
def nxN : Nat → Mo → Mo
  | 0, m => m
  | n + 1, m => nxN n (nxM m)
theorem seg_sound : ∀ {n : Nat} {l : List Oper} {L M : List (Nat × T)} {s : Nat → T} {m : Mo}, seg P ops n l L = some M → Sub L s → (∀ s', Sub M s' → opsX P O ops (nxN n m) (l.drop n) K ⟨s', σ⟩) → opsX P O ops m l K ⟨s, σ⟩
  | 0, l, L, M, s, m, h, hS, k => by injection h with h; subst h; exact k s hS
  | n + 1, [], L, M, s, m, h, hS, k => by cases h
  | n + 1, o :: l, L, M, s, m, h, hS, k => by
    simp only [seg] at h
    split at h
    · rename_i hw
      split at h
      · rename_i v hv
        refine x_val (want_sound hS hw) (fun kk σ' _ => pOp_sound hS hv kk σ' _ _ _ _ _) ?_
        rw [put_eq]
        exact seg_sound h (sub_putL hS o.dst v σ) k
      · cases h
    · rename_i hw
      refine x_off (want_sound hS hw) ?_
      rw [put_eq]
      exact seg_sound h (sub_putL hS o.dst _ σ) k
    · cases h
theorem q_val {op : Op} {v : T} (hw : want ops L g = some true) (hS : Sub L s) (h : ∀ k σ', m.al σ σ' → aOp P k ⟨s, σ'⟩ ⟨d, op, ty, ps, af, g⟩ = some (.val v σ'))
    (k : ∀ s', Sub (putL L d v) s' → opsX P O ops (nxM m) l K ⟨s', σ⟩) : opsX P O ops m (⟨d, op, ty, ps, af, g⟩ :: l) K ⟨s, σ⟩ :=
  x_val (want_sound hS hw) h (by rw [put_eq]; exact k _ (sub_putL hS d v σ))
theorem q_callV {fo : Operand} {args : Array Operand} {ts : Array TypeId} {f : Nat} {a b as : List T} {r : T} (hw : want ops L g = some true) (hS : Sub L s) (hf : gE (get L) fo = some (.fn f a b)) (ha : gEs (get L) args.toList = some as)
    (hr : O f (a ++ as ++ b) σ = some (r, σ)) (hv : m.vw = true → ∀ σ, O f (a ++ as ++ b) σ = some (r, σ)) (k : ∀ s', Sub (putL L d r) s' → opsX P O ops (nxM m) l K ⟨s', σ⟩) : opsX P O ops m (⟨d, .call ⟨.value fo, args, ts⟩, ty, ps, af, g⟩ :: l) K ⟨s, σ⟩ :=
  x_call rfl (want_sound hS hw) (fun kk σ' => by rw [a_call, gEs_sound hS ha, Option.bind_some, gE_sound hS hf]; rfl) hr hv (by rw [put_eq]; exact k _ (sub_putL hS d r σ))
theorem q_idx {x i : Operand} {t e : TypeId} {z : Bool} {n : Nat} {cs : List T} {kk : IntKind} {j : Int} {sz : Nat} (c rest : List T) (hw : want ops L g = some true) (hS : Sub L s) (hx : gE (get L) x = some (.row z n cs)) (hi : gE (get L) i = some (.int kk j))
    (he : elemOfSl P t = some e) (hz : szOf P e = some sz) (hj : 0 ≤ j ∧ j < n) (hl : cs.length = n * sz) (hd : cs.drop (j.toNat * sz) = c ++ rest)
    (k : ∀ s', Sub (putL L d (.vw (c ++ rest))) s' → opsX P O ops (nxM m) l K ⟨s', σ⟩) : opsX P O ops m (⟨d, .indexAddr t x i, ty, ps, af, g⟩ :: l) K ⟨s, σ⟩ :=
  q_val hw hS (fun kk σ' _ => by rw [a_indexAddr, gE_sound hS hx, Option.bind_some, gE_sound hS hi, Option.bind_some, iA_row, he, Option.bind_some, hz, Option.bind_some, if_pos ⟨hj.1, hj.2, hl⟩, hd]; rfl) k
theorem q_cat {x y : Operand} {t u : TypeId} {a b : ByteArray} (hw : want ops L g = some true) (hS : Sub L s) (hx : gE (get L) x = some (.str a)) (hy : gE (get L) y = some (.str b)) (hb : a.size + b.size ≤ 9223372036854775807)
    (k : ∀ s', Sub (putL L d (.str (a ++ b))) s' → opsX P O ops (nxM m) l K ⟨s', σ⟩) : opsX P O ops m (⟨d, .binOp .add t x y u, ty, ps, af, g⟩ :: l) K ⟨s, σ⟩ :=
  q_val hw hS (fun kk σ' _ => by rw [a_binOp, gE_sound hS hx, Option.bind_some, gE_sound hS hy, Option.bind_some, binA_str, sb_add, if_pos hb]; rfl) k
theorem x_new {o : Oper} {v : T} {σ' : St} (hw : wantedA ops o s = true) (h : aOp P none ⟨s, σ⟩ o = some (.val v σ')) (kk : opsX P O ops .q l K (Fr.put ⟨s, σ⟩ o.dst v σ')) : opsX P O ops .q (o :: l) K ⟨s, σ⟩ := by
  show opQ P O ops none o (opsQ P O ops l K) ⟨s, σ⟩
  unfold opQ; simp only [hw, cond_true, h]; exact kk
theorem Cg.push {m : Mo} {k : Option Nat} {σ : St} {B : Blk} (hk : σ.okK k = true) : Cg m k σ (σ.pushK k B) := ⟨pushK_nx, fun x hx hn => by
  refine .inl ?_
  rw [pushK_blk, if_neg]
  rintro rfl
  cases k with
  | none => simp [St.nid] at hx
  | some i => exact hn rfl⟩
theorem Mo.inb_base {m : Mo} {k : Option Nat} {σ0 : St} (h : m.inb k) (hb : m.base σ0) : ∀ i, k = some i → σ0.next ≤ i := fun i e => by
  cases m with
  | c b i' W σs cm => obtain ⟨j, rfl, h2⟩ := h; injection e with e; subst e; exact Nat.le_trans hb h2
  | _ => subst e; cases h
theorem Mo.inb_wr {m : Mo} {k : Option Nat} {σ : St} (h : m.inb k) : m.nw (σ.nid k) := by
  cases m with
  | c b i' W σs cm => obtain ⟨j, rfl, h2⟩ := h; exact h2
  | _ => trivial
theorem q_boxC (hm : m.chg = true) (hb : m.base σ0) {x : Operand} {t : TypeId} {v : T} {cs : List T} (hw : want ops L g = some true) (hS : Sub L s) (hH : Heap σ0 σ es) (hx : gE (get L) x = some v) (hcs : v.cells = cs) (h1 : cs.all T.one = true)
    (k : ∀ b σ' s', m.nw b → Heap σ0 σ' (.box b cs :: es) → Sub (putL L d (.ptr b 0 0 cs.length)) s' → opsX P O ops (nxM m) l K ⟨s', σ'⟩) : opsX P O ops m (⟨d, .box t x, ty, ps, af, g⟩ :: l) K ⟨s, σ⟩ := by
  subst hcs
  refine x_newC hm rfl (want_sound hS hw) fun kk hk hi => ⟨T.ptr (σ.nid kk) 0 0 v.cells.length, σ.pushK kk (mkBlk v.cells v.cells.length), ?_, Cg.push hk, ?_⟩
  · show ((evalO s x).bind fun x => if x.cells.all T.one = true ∧ σ.okK kk = true then some (ARes.val (T.ptr (σ.nid kk) 0 0 x.cells.length) (σ.pushK kk (mkBlk x.cells x.cells.length))) else none) = _
    rw [gE_sound hS hx, Option.bind_some, if_pos ⟨h1, hk⟩]
  · rw [put_eq]; exact k _ _ _ (Mo.inb_wr hi) (hH.boxK hk (Mo.inb_base hi hb) _ _) (sub_putL hS d _ σ)
theorem q_allocC (hm : m.chg = true) (hb : m.base σ0) {t : TypeId} {z : List T} (hw : want ops L g = some true) (hS : Sub L s) (hH : Heap σ0 σ es) (hz : zeroOf P t = some z)
    (k : ∀ b σ' s', m.nw b → Heap σ0 σ' (.box b z :: es) → Sub (putL L d (.ptr b 0 0 z.length)) s' → opsX P O ops (nxM m) l K ⟨s', σ'⟩) : opsX P O ops m (⟨d, .alloc t, ty, ps, af, g⟩ :: l) K ⟨s, σ⟩ := by
  refine x_newC hm rfl (want_sound hS hw) fun kk hk hi => ⟨T.ptr (σ.nid kk) 0 0 z.length, σ.pushK kk (mkBlk z z.length), ?_, Cg.push hk, ?_⟩
  · show ((zeroOf P t).bind fun z => if σ.okK kk = true then some (ARes.val (T.ptr (σ.nid kk) 0 0 z.length) (σ.pushK kk (mkBlk z z.length))) else none) = _
    rw [hz, Option.bind_some, if_pos hk]
  · rw [put_eq]; exact k _ _ _ (Mo.inb_wr hi) (hH.boxK hk (Mo.inb_base hi hb) _ _) (sub_putL hS d _ σ)
theorem q_box {x : Operand} {t : TypeId} {v : T} {cs : List T} (hw : want ops L g = some true) (hS : Sub L s) (hH : Heap σ0 σ es) (hx : gE (get L) x = some v) (hcs : v.cells = cs) (h1 : cs.all T.one = true)
    (k : ∀ b σ' s', Heap σ0 σ' (.box b cs :: es) → Sub (putL L d (.ptr b 0 0 cs.length)) s' → opsX P O ops .q l K ⟨s', σ'⟩) : opsX P O ops .q (⟨d, .box t x, ty, ps, af, g⟩ :: l) K ⟨s, σ⟩ :=
  q_boxC (m := .q) rfl trivial hw hS hH hx hcs h1 fun b σ' s' _ => k b σ' s'
theorem q_alloc {t : TypeId} {z : List T} (hw : want ops L g = some true) (hS : Sub L s) (hH : Heap σ0 σ es) (hz : zeroOf P t = some z)
    (k : ∀ b σ' s', Heap σ0 σ' (.box b z :: es) → Sub (putL L d (.ptr b 0 0 z.length)) s' → opsX P O ops .q l K ⟨s', σ'⟩) : opsX P O ops .q (⟨d, .alloc t, ty, ps, af, g⟩ :: l) K ⟨s, σ⟩ :=
  q_allocC (m := .q) rfl trivial hw hS hH hz fun b σ' s' _ => k b σ' s'
theorem Heap.at {σ0 σ : St} {es : List Ent} {e : Ent} (h : Heap σ0 σ es) (i : Nat) (he : es[i]? = some e) : Heap σ0 σ (e :: es.eraseIdx i) := by
  have := h.pull i
  unfold pullL at this
  rw [he] at this; exact this
theorem q_load {a : Operand} {t : TypeId} {b e off n : Nat} {cells : List T} {v : T} (i : Nat) (hlt : m.lt b) (hw : want ops L g = some true) (hS : Sub L s) (hH : Heap σ0 σ es) (he : es[i]? = some (.box b cells)) (ha : gE (get L) a = some (.ptr b e off n)) (hv : part P t ((cells.drop off).take n) 0 = some v)
    (k : ∀ s', Sub (putL L d v) s' → opsX P O ops (nxM m) l K ⟨s', σ⟩) : opsX P O ops m (⟨d, .load t a, ty, ps, af, g⟩ :: l) K ⟨s, σ⟩ := by
  obtain ⟨B, h1, rfl, h3, h4, h5⟩ := (hH.at i he).look
  exact q_val hw hS (fun kk σ' ha' => by rw [a_load, gE_sound hS ha, Option.bind_some, loadA_ptr, Mo.al_blk ha' hlt, h1, Option.bind_some, if_pos (by omega), hv]; rfl) k
def storeC (P : Program) (t : TypeId) (cells : List T) (off n : Nat) (cs : List T) : Option (List T) :=
  match szOf P t with
  | some sz => if cs.length = sz ∧ sz ≤ n ∧ off + sz ≤ cells.length then some (splice cells off cs) else none
  | none => none
theorem q_storeC (hm : m.chg = true) {a x : Operand} {t : TypeId} {b off n : Nat} {cells cells' cs : List T} {v : T} (hwr : m.wr b) (hw : want ops L g = some true) (hS : Sub L s) (hH : Heap σ0 σ (.box b cells :: es)) (ha : gE (get L) a = some (.ptr b 0 off n)) (hx : gE (get L) x = some v) (hcs : v.cells = cs) (h1 : cs.all T.one = true)
    (hc : storeC P t cells off n cs = some cells')
    (k : ∀ σ' s', Heap σ0 σ' (.box b cells' :: es) → Sub (putL L d (.tup [])) s' → opsX P O ops (nxM m) l K ⟨s', σ'⟩) : opsX P O ops m (⟨d, .store t a x, ty, ps, af, g⟩ :: l) K ⟨s, σ⟩ := by
  obtain ⟨B, k1, rfl, k3, k4, k5⟩ := hH.look
  subst hcs
  unfold storeC at hc
  split at hc
  · rename_i sz hz
    split at hc
    · rename_i hh
      injection hc with hc; subst hc
      refine x_skipC (σ' := σ.set b { B with cells := splice B.cells off v.cells, low := B.ep, ver := B.ver + 1 }) hm rfl (want_sound hS hw) (fun kk => ?_) (fun kk => ⟨Nat.le_refl _, fun x hx _ => ?_⟩) ?_
      · rw [a_store, gE_sound hS ha, Option.bind_some, gE_sound hS hx, Option.bind_some, storeA_ptr, k1, Option.bind_some, hz, Option.bind_some, if_pos ⟨k5, k3.symm, hh.1, hh.2.1, hh.2.2, h1⟩]; rfl
      · rw [set_blk]; split
        · rename_i e; subst e; exact .inr ⟨hwr, by rw [k1]; rfl⟩
        · exact .inl rfl
      · rw [put_eq]; exact k _ _ (hH.put rfl k3 k3 k5) (sub_putL hS d _ σ)
    · cases hc
  · cases hc
end
section
variable {P : Program} {O : Oracle} {Q : AExit → Fr → Prop} {s : Nat → T} {σ σ0 : St} {L : List (Nat × T)} {es : List Ent}
theorem Heap.bump {n : Nat} (h : Heap σ0 σ es) : Heap σ0 (σ.bump n) es :=
  Heap.step (es1 := []) (es2 := []) (es := es) h (by simp) fun S hS _ _ => ⟨[], rfl, by simp, by simp, fun b hb _ => by rw [bump_blk, if_pos hb]⟩
theorem c_draw {id : Nat} {ops : Array Oper} (hst : drawOk ops = true) (hH : Heap σ0 σ es) (h : ∀ b σ', Heap σ0 σ' es → opsX P O ops (.d b 0) ops.toList (Q .normal) ⟨s, σ'⟩) : codeQ P O (.region id ops true) Q ⟨s, σ⟩ :=
  drawQ_pure hst (h σ.next (σ.bump ops.size) hH.bump)
theorem c_cond {c : Operand} {a b : Code} {t : Bool} (hS : Sub L s) (hc : gE (get L) c = some (.bool t)) (h1 : t = true → codeQ P O a Q ⟨s, σ⟩) (h2 : t = false → codeQ P O b Q ⟨s, σ⟩) : codeQ P O (.cond c a b) Q ⟨s, σ⟩ := by
  simp only [codeQ, gE_sound hS hc]; exact ⟨h1, h2⟩
end
section
variable {S R : Type}
def iter (body : S → Option (S ⊕ R)) : Nat → S → Option R
  | 0, _ => none
  | n + 1, s => match body s with
    | some (.inl s') => iter body n s'
    | some (.inr r) => some r
    | none => none
noncomputable def loopO (body : S → Option (S ⊕ R)) (s : S) : Option R := if h : ∃ n r, iter body n s = some r then some (Classical.choose (Classical.choose_spec h)) else none
theorem iter_mono {body : S → Option (S ⊕ R)} : ∀ {n : Nat} {s : S} {r : R}, iter body n s = some r → ∀ m, n ≤ m → iter body m s = some r
  | 0, s, r, h, m, hm => by cases h
  | n + 1, s, r, h, m, hm => by
    obtain ⟨m, rfl⟩ : ∃ k, m = k + 1 := ⟨m - 1, by omega⟩
    simp only [iter] at h ⊢
    split at h
    · exact iter_mono h m (by omega)
    · exact h
    · cases h
theorem loopO_some {body : S → Option (S ⊕ R)} {s : S} {r : R} : loopO body s = some r ↔ ∃ n, iter body n s = some r := by
  unfold loopO
  constructor
  · intro h
    split at h
    · rename_i hx
      exact ⟨Classical.choose hx, by rw [Classical.choose_spec (Classical.choose_spec hx)]; exact h⟩
    · cases h
  · rintro ⟨n, h⟩
    have hx : ∃ n r, iter body n s = some r := ⟨n, r, h⟩
    rw [dif_pos hx]
    have h2 := Classical.choose_spec (Classical.choose_spec hx)
    have e1 := iter_mono h (max n (Classical.choose hx)) (Nat.le_max_left _ _)
    have e2 := iter_mono h2 (max n (Classical.choose hx)) (Nat.le_max_right _ _)
    rw [e1] at e2
    exact e2.symm
theorem loopO_go {body : S → Option (S ⊕ R)} {s s' : S} {r : R} (h : body s = some (.inl s')) (k : loopO body s' = some r) : loopO body s = some r := by
  obtain ⟨n, hn⟩ := loopO_some.1 k
  exact loopO_some.2 ⟨n + 1, by simp only [iter, h, hn]⟩
theorem loopO_stop {body : S → Option (S ⊕ R)} {s : S} {r : R} (h : body s = some (.inr r)) : loopO body s = some r := loopO_some.2 ⟨1, by simp only [iter, h]⟩
variable {P : Program} {O : Oracle} {Q : AExit → Fr → Prop}
def roundQ (Inv : S → Fr → Prop) (Fin : R → AExit → Fr → Prop) : S ⊕ R → AExit → Fr → Prop
  | .inl s, .normal, fr => Inv s fr
  | .inr r, .exit i, fr => Fin r (.exit i) fr
  | .inr r, .ret, fr => Fin r .ret fr
  | _, _, _ => False
theorem c_loop {body : S → Option (S ⊕ R)} {c : Code} {s0 : S} {r : R} (Inv : S → Fr → Prop) (Fin : R → AExit → Fr → Prop) (hb : loopO body s0 = some r) {fr : Fr} (hi : Inv s0 fr)
    (hr : ∀ s x fr, body s = some x → Inv s fr → codeQ P O c (roundQ Inv Fin x) fr) (hk : ∀ x fr, Fin r x fr → Q x fr) : codeQ P O (.loop c) Q fr := by
  obtain ⟨n, hn⟩ := loopO_some.1 hb
  show loopQ (codeL P O c) Q fr
  clear hb
  induction n generalizing s0 fr with
  | zero => cases hn
  | succ n ih =>
    simp only [iter] at hn
    unfold loopQ
    rw [loopL_unfold]
    split at hn
    · rename_i s' hs
      obtain ⟨x, fr', h1, h2⟩ := codeQ_sound (hr _ _ _ hs hi)
      cases x with
      | normal =>
        rw [h1]
        exact ih (fr := fr') h2 hn
      | exit i => exact h2.elim
      | ret => exact h2.elim
    · rename_i r' hs
      injection hn with hn; subst hn
      obtain ⟨x, fr', h1, h2⟩ := codeQ_sound (hr _ _ _ hs hi)
      rw [h1]
      cases x with
      | normal => exact h2.elim
      | exit i => exact ⟨_, _, rfl, hk _ _ h2⟩
      | ret => exact ⟨_, _, rfl, hk _ _ h2⟩
    · cases hn
end
end Go.Am
end
section
set_option linter.unusedVariables false
set_option linter.unusedSimpArgs false
namespace Go.Am
open Classical
class Enc (α : Type) where
  cells : α → List T
  w : Nat
  len : ∀ a, (cells a).length = w
  one : ∀ a, (cells a).all T.one = true
  pure : ∀ a, pureL (cells a) = true
  inj : ∀ a b, cells a = cells b → a = b
structure Sl (α : Type) where
  z : Bool
  l : List α
structure Iv (k : IntKind) where
  v : Int
def cellsL {α : Type} [Enc α] : List α → List T
  | [] => []
  | a :: l => Enc.cells a ++ cellsL l
def Sl.t {α : Type} [Enc α] (s : Sl α) : T := .row s.z s.l.length (cellsL s.l)
section
variable {α : Type} [Enc α]
theorem cellsL_len : ∀ (l : List α), (cellsL l).length = l.length * Enc.w α
  | [] => by simp [cellsL]
  | a :: l => by simp [cellsL, Enc.len, cellsL_len l, Nat.succ_mul, Nat.add_comm]
theorem cellsL_drop : ∀ (l : List α) (i : Nat), (cellsL l).drop (i * Enc.w α) = cellsL (l.drop i)
  | [], i => by simp [cellsL]
  | a :: l, 0 => by simp
  | a :: l, i + 1 => by
    simp only [cellsL, List.drop_succ_cons]
    rw [List.drop_append, List.drop_of_length_le (by rw [Enc.len, Nat.succ_mul]; omega), List.nil_append, Enc.len, show (i + 1) * Enc.w α - Enc.w α = i * Enc.w α by rw [Nat.succ_mul]; omega]
    exact cellsL_drop l i
theorem cellsL_at (l : List α) (i : Nat) (x : α) (h : l[i]? = some x) : (cellsL l).drop (i * Enc.w α) = Enc.cells x ++ cellsL (l.drop (i + 1)) := by
  rw [cellsL_drop]
  obtain ⟨hi, rfl⟩ := List.getElem?_eq_some_iff.1 h
  rw [List.drop_eq_getElem_cons hi]; rfl
theorem cellsL_one : ∀ (l : List α), (cellsL l).all T.one = true
  | [] => rfl
  | a :: l => by simp only [cellsL, List.all_append, Enc.one, cellsL_one l, Bool.and_self]
theorem pureL_append : ∀ (a b : List T), pureL (a ++ b) = (pureL a && pureL b)
  | [], b => by simp [pureL]
  | t :: a, b => by simp [pureL, pureL_append a b, Bool.and_assoc]
theorem cellsL_pure : ∀ (l : List α), pureL (cellsL l) = true
  | [] => rfl
  | a :: l => by simp only [cellsL, pureL_append, Enc.pure, cellsL_pure l, Bool.and_self]
theorem cellsL_inj : ∀ (l l' : List α), l.length = l'.length → cellsL l = cellsL l' → l = l'
  | [], [], _, _ => rfl
  | [], _ :: _, h, _ => by simp at h
  | _ :: _, [], h, _ => by simp at h
  | a :: l, b :: l', h, k => by
    simp only [cellsL] at k
    have := List.append_inj k (by rw [Enc.len, Enc.len])
    rw [Enc.inj a b this.1, cellsL_inj l l' (by simpa using h) this.2]
@[simp] theorem Sl.one (s : Sl α) : s.t.one = true := (rfl)
@[simp] theorem Sl.cells (s : Sl α) : s.t.cells = [s.t] := (rfl)
@[simp] theorem Sl.pure (s : Sl α) : pureT s.t = true := cellsL_pure s.l
@[simp] theorem Sl.frz (s : Sl α) (σ : St) (d : Nat) : Go.Am.frz σ d s.t = some (s.t, []) := by cases d <;> rfl
theorem Sl.inj {a b : Sl α} (h : a.t = b.t) : a = b := by
  obtain ⟨z, l⟩ := a; obtain ⟨z', l'⟩ := b
  injection h with h1 h2 h3
  rw [show z = z' from h1, cellsL_inj l l' h2 h3]
@[simp] theorem Sl.inj_iff {a b : Sl α} : a.t = b.t ↔ a = b := ⟨Sl.inj, fun h => by rw [h]⟩
end
instance : Enc ByteArray := ⟨fun s => [.str s], 1, fun _ => rfl, fun _ => rfl, fun _ => rfl, fun a b h => by simpa using h⟩
instance : Enc Bool := ⟨fun s => [.bool s], 1, fun _ => rfl, fun _ => rfl, fun _ => rfl, fun a b h => by simpa using h⟩
instance (k : IntKind) : Enc (Iv k) := ⟨fun s => [.int k s.v], 1, fun _ => rfl, fun _ => rfl, fun _ => rfl, fun a b h => by cases a; cases b; simpa using h⟩
instance {α : Type} [Enc α] : Enc (Sl α) := ⟨fun s => [s.t], 1, fun _ => rfl, fun _ => rfl, fun s => by simp [pureL], fun a b h => by simpa using h⟩
def elt {α : Type} (s : Sl α) (i : Int) : Option α := if 0 ≤ i then s.l[i.toNat]? else none
theorem elt_some {α : Type} {s : Sl α} {i : Int} {x : α} (h : elt s i = some x) : 0 ≤ i ∧ i < s.l.length ∧ s.l[i.toNat]? = some x := by
  unfold elt at h
  split at h
  · rename_i h0
    have := (List.getElem?_eq_some_iff.1 h).1
    exact ⟨h0, by omega, h⟩
  · cases h
def catB (a b : ByteArray) : Option ByteArray := if a.size + b.size ≤ 9223372036854775807 then some (a ++ b) else none
theorem catB_some {a b c : ByteArray} (h : catB a b = some c) : a.size + b.size ≤ 9223372036854775807 ∧ c = a ++ b := by
  unfold catB at h
  split at h
  · rename_i h0; injection h with h; exact ⟨h0, h.symm⟩
  · cases h
def flat1 : T → Bool
  | .ref .. | .agg _ | .tup _ | .emp => false
  | _ => true
def flat2 : T → Bool
  | .agg cs => cs.all flat1
  | t => flat1 t
def flat3 : T → Bool
  | .tup ts => ts.all flat2
  | t => flat2 t
theorem frz_flat1 {σ : St} {d : Nat} {t : T} (h : flat1 t = true) : frz σ d t = some (t, []) := by cases t <;> cases d <;> simp [flat1] at h <;> simp [frz]
theorem frz_flat2 {σ : St} {d : Nat} {t : T} (h : flat2 t = true) : frz σ (d + 1) t = some (t, []) := by
  cases t with
  | agg cs =>
    simp only [flat2, List.all_eq_true] at h
    simp only [frz, frzL_leaf (f := frz σ d) (ts := cs) fun t ht => frz_flat1 (h t ht), Option.map_some]
  | _ => exact frz_flat1 h
theorem frz_flat3 {σ : St} {d : Nat} {t : T} (h : flat3 t = true) : frz σ (d + 2) t = some (t, []) := by
  cases t with
  | tup cs =>
    simp only [flat3, List.all_eq_true] at h
    simp only [frz, frzL_leaf (f := frz σ (d + 1)) (ts := cs) fun t ht => frz_flat2 (h t ht), Option.map_some]
  | _ => exact frz_flat2 h
theorem frzL_flat {σ : St} {ts : List T} (h : ts.all flat3 = true) : frzL (frz σ 4194304) ts = some (ts, []) := by
  simp only [List.all_eq_true] at h
  exact frzL_leaf fun t ht => frz_flat3 (h t ht)
def nums : Nat → List T → List (Nat × T)
  | _, [] => []
  | i, t :: ts => (i, t) :: nums (i + 1) ts
theorem sub_enter (args : List T) : Sub (nums 0 args) (enterS args) := by
  have key : ∀ (ts : List T) (i : Nat) (j : Nat) (v : T), get (nums i ts) j = some v → i ≤ j ∧ ts[j - i]? = some v := by
    intro ts
    induction ts with
    | nil => intro i j v h; cases h
    | cons t ts ih =>
      intro i j v h
      simp only [nums, get] at h
      split at h
      · rename_i e; have := Nat.eq_of_beq_eq_true e; subst this; simpa using h
      · obtain ⟨h1, h2⟩ := ih (i + 1) j v h
        refine ⟨by omega, ?_⟩
        rw [show j - i = (j - (i + 1)) + 1 by omega]; simpa using h2
  intro j v h
  obtain ⟨_, h2⟩ := key args 0 j v h
  simp only [Nat.sub_zero] at h2
  simp [enterS, List.getD_eq_getElem?_getD, h2]
section
variable {P : Program} {s : Nat → T} {σ σ0 : St} {L : List (Nat × T)} {es : List Ent} {rs : List ResultVar} {l : List T}
theorem r_tmp {t : Nat} {v : T} (hS : Sub L s) (h : get L t = some v) (k : resL P ⟨s, σ⟩ rs = some l) : resL P ⟨s, σ⟩ (.tmp t :: rs) = some (v :: l) := by
  simp only [resL, resV, hS t v h, k, Option.bind_some, Option.map_some]
theorem r_cell {a : Nat} {ty : TypeId} {b e off n : Nat} {cells : List T} {v : T} (hS : Sub L s) (hH : Heap σ0 σ (.box b cells :: es)) (h : get L a = some (.ptr b e off n)) (hv : part P ty ((cells.drop off).take n) 0 = some v)
    (k : resL P ⟨s, σ⟩ rs = some l) : resL P ⟨s, σ⟩ (.cell a ty :: rs) = some (v :: l) := by
  obtain ⟨B, h1, rfl, h3, h4, h5⟩ := hH.look
  simp only [resL, resV, hS a _ h, loadA_ptr, h1, Option.bind_some, k, Option.map_some]
  rw [if_pos (by omega), hv]; rfl
end
def St.empty' : St := ⟨0, fun _ => none⟩
section
variable (P : Program) (md : Nat → Md) (X : Ext)
noncomputable def semV {β : Type} (eb : β → T) (f : Nat) (args : List T) : Option β :=
  if h : ∃ r, ∀ σ, run P md X f args σ = some (eb r, σ) then some (Classical.choose h) else none
end
section
variable {P : Program} {md : Nat → Md} {X : Ext} {β : Type} {eb : β → T} {f : Nat} {args : List T} {r : β}
theorem semV_spec (h : semV P md X eb f args = some r) (σ : St) : run P md X f args σ = some (eb r, σ) := by
  unfold semV at h
  split at h
  · rename_i hx; injection h with h; subst h; exact Classical.choose_spec hx σ
  · cases h
theorem semV_intro (hi : ∀ a b, eb a = eb b → a = b) (h : ∀ σ, run P md X f args σ = some (eb r, σ)) : semV P md X eb f args = some r := by
  have hx : ∃ r, ∀ σ, run P md X f args σ = some (eb r, σ) := ⟨r, h⟩
  unfold semV
  rw [dif_pos hx]
  have h1 := Classical.choose_spec hx St.empty'
  rw [h St.empty'] at h1
  injection h1 with h1; injection h1 with h1
  rw [← hi _ _ h1]
variable {ops : Array Oper} {m : Mo} {l : List Oper} {K : Fr → Prop} {s : Nat → T} {σ : St} {L : List (Nat × T)}
variable {d : Option Nat} {ty : TypeId} {ps : String} {af : Array Edge} {g : Option (Nat × Bool)}
theorem q_callF {fo : Operand} {as : Array Operand} {ts : Array TypeId} {a b xs : List T} (hw : want ops L g = some true) (hS : Sub L s) (hf : gE (get L) fo = some (.fn f a b)) (ha : gEs (get L) as.toList = some xs)
    (hr : semV P md X eb f (a ++ xs ++ b) = some r) (k : ∀ s', Sub (putL L d (eb r)) s' → opsX P (run P md X) ops (nxM m) l K ⟨s', σ⟩) : opsX P (run P md X) ops m (⟨d, .call ⟨.value fo, as, ts⟩, ty, ps, af, g⟩ :: l) K ⟨s, σ⟩ :=
  q_callV hw hS hf ha (semV_spec hr σ) (fun _ σ => semV_spec hr σ) k
end
section
theorem inj_int {k : IntKind} : ∀ a b : Int, T.int k a = T.int k b → a = b := fun a b h => by injection h
theorem inj_bool : ∀ a b : Bool, T.bool a = T.bool b → a = b := fun a b h => by injection h
theorem inj_str : ∀ a b : ByteArray, T.str a = T.str b → a = b := fun a b h => by injection h
theorem inj_sl {α : Type} [Enc α] : ∀ a b : Sl α, a.t = b.t → a = b := fun a b h => Sl.inj h
theorem inj_agg {α : Type} [Enc α] : ∀ a b : α, T.agg (Enc.cells a) = T.agg (Enc.cells b) → a = b := fun a b h => by injection h with h; exact Enc.inj a b h
variable {α β γ δ ε : Type} {e1 : α → T} {e2 : β → T} {e3 : γ → T} {e4 : δ → T} {e5 : ε → T}
end
section
variable {P : Program} {O : Oracle} {ops : Array Oper} {m : Mo} {l : List Oper} {K : Fr → Prop} {s : Nat → T} {σ : St} {L : List (Nat × T)}
variable {d : Option Nat} {ty : TypeId} {ps : String} {af : Array Edge} {g : Option (Nat × Bool)}
theorem q_elt {α : Type} [Enc α] {x i : Operand} {t e : TypeId} {sl : Sl α} {kk : IntKind} {j : Int} {y : α} (c : List T) (hw : want ops L g = some true) (hS : Sub L s) (hx : gE (get L) x = some sl.t) (hi : gE (get L) i = some (.int kk j))
    (he : elemOfSl P t = some e) (hz : szOf P e = some (Enc.w α)) (hy : elt sl j = some y) (hc : Enc.cells y = c)
    (k : ∀ rest s', Sub (putL L d (.vw (c ++ rest))) s' → opsX P O ops (nxM m) l K ⟨s', σ⟩) : opsX P O ops m (⟨d, .indexAddr t x i, ty, ps, af, g⟩ :: l) K ⟨s, σ⟩ := by
  obtain ⟨h1, h2, h3⟩ := elt_some hy
  exact q_idx (cs := cellsL sl.l) c (cellsL (sl.l.drop (j.toNat + 1))) hw hS hx hi he hz ⟨h1, h2⟩ (cellsL_len _) (by rw [cellsL_at _ _ _ h3, hc]) (fun s' => k _ s')
theorem q_catO {x y : Operand} {t u : TypeId} {a b c : ByteArray} (hw : want ops L g = some true) (hS : Sub L s) (hx : gE (get L) x = some (.str a)) (hy : gE (get L) y = some (.str b)) (hc : catB a b = some c)
    (k : ∀ s', Sub (putL L d (.str c)) s' → opsX P O ops (nxM m) l K ⟨s', σ⟩) : opsX P O ops m (⟨d, .binOp .add t x y u, ty, ps, af, g⟩ :: l) K ⟨s, σ⟩ := by
  obtain ⟨h1, rfl⟩ := catB_some hc
  exact q_cat hw hS hx hy h1 k
theorem all_cons {t : T} {ts : List T} (h : flat3 t = true) (k : ts.all flat3 = true) : (t :: ts).all flat3 = true := by simp [h, k]
theorem it_pos {α : Type} {c : Prop} [Decidable c] {A B : Option α} {r : α} (hc : c) (h : (if c then A else B) = some r) : A = some r := by rwa [if_pos hc] at h
theorem it_neg {α : Type} {c : Prop} [Decidable c] {A B : Option α} {r : α} (hc : ¬c) (h : (if c then A else B) = some r) : B = some r := by rwa [if_neg hc] at h
theorem Heap.take {σ0 σ : St} {es : List Ent} (h : Heap σ0 σ es) (n : Nat) : Heap σ0 σ (es.take n) := by
  have h : Heap σ0 σ (es.take n ++ es.drop n) := by rw [List.take_append_drop]; exact h
  have := h.perm List.perm_append_comm
  exact Heap.step (es1 := es.drop n) (es2 := []) (es := es.take n) this (Nat.le_refl _) fun S _ _ _ => ⟨[], rfl, by simp, by simp, fun _ _ _ => rfl⟩
end
theorem bind_some {α β : Type} {x : Option α} {f : α → Option β} {r : β} (h : x.bind f = some r) : ∃ a, x = some a ∧ f a = some r := Option.bind_eq_some_iff.1 h
section
variable {P : Program} {O : Oracle} {Q : AExit → Fr → Prop} {K : Fr → Prop} {fr : Fr}
end
end Go.Am
end
section
set_option linter.unusedVariables false
set_option linter.unusedSimpArgs false
namespace Go.Am
open Classical
theorem hold_weak {σ : St} : ∀ (d : Nat) (t v : T) (S : List Nat), hold true σ d t = some (v, S) → hold false σ d t = some (v, S)
  | 0, t, v, S, h => by
    cases t with
    | row zz n cs => cases zz <;> cases n <;> cases cs <;> simp [hold] at h ⊢ <;> exact h
    | _ => simp [hold] at h <;> simp [hold, h]
  | d + 1, t, v, S, h => by
    cases t with
    | ref b e off n =>
      simp only [hold] at h
      obtain ⟨B, hb, h1⟩ := Option.bind_eq_some_iff.1 h
      split at h1
      · rename_i hc
        obtain ⟨⟨cs, S1⟩, h2, h3⟩ := Option.map_eq_some_iff.1 h1
        injection h3 with h3 h4; subst h3; subst h4
        have h5 := frzL_congr (g := hold false σ d) (fun t v S' _ hh _ => hold_weak d t v S' hh) h2
        simp only [hold, hb, Option.bind_some, h5, Option.map_some]
        rw [if_pos ⟨(fun h => by cases h), hc.2⟩]
      · cases h1
    | agg cs =>
      simp only [hold] at h
      obtain ⟨⟨cs', S1⟩, h2, h3⟩ := Option.map_eq_some_iff.1 h
      injection h3 with h3 h4; subst h3; subst h4
      simp only [hold, frzL_congr (g := hold false σ d) (fun t v S' _ hh _ => hold_weak d t v S' hh) h2, Option.map_some]
    | tup cs =>
      simp only [hold] at h
      obtain ⟨⟨cs', S1⟩, h2, h3⟩ := Option.map_eq_some_iff.1 h
      injection h3 with h3 h4; subst h3; subst h4
      simp only [hold, frzL_congr (g := hold false σ d) (fun t v S' _ hh _ => hold_weak d t v S' hh) h2, Option.map_some]
    | row zz n cs => cases zz <;> cases n <;> cases cs <;> simp [hold] at h ⊢ <;> exact h
    | _ => simp [hold] at h <;> simp [hold, h]
theorem frzL_append {f : T → Option (T × List Nat)} : ∀ {a b va vb : List T} {Sa Sb : List Nat}, frzL f a = some (va, Sa) → frzL f b = some (vb, Sb) → frzL f (a ++ b) = some (va ++ vb, Sa ++ Sb)
  | [], b, va, vb, Sa, Sb, ha, hb => by simp [frzL] at ha; obtain ⟨rfl, rfl⟩ := ha; simpa using hb
  | t :: a, b, va, vb, Sa, Sb, ha, hb => by
    simp only [frzL] at ha
    obtain ⟨⟨v0, S0⟩, h1, h2⟩ := Option.bind_eq_some_iff.1 ha
    obtain ⟨⟨vs, S1⟩, h3, h4⟩ := Option.map_eq_some_iff.1 h2
    injection h4 with h4 h5; subst h4; subst h5
    simp only [List.cons_append, frzL, h1, Option.bind_some, frzL_append h3 hb, Option.map_some, List.append_assoc]
theorem frzLh_mono {z : Bool} {σ : St} {k k' : Nat} (hk : k ≤ k') {ts vs : List T} {F : List Nat} (h : frzL (hold z σ k) ts = some (vs, F)) : frzL (hold z σ k') ts = some (vs, F) :=
  frzL_congr (fun t v S _ hh _ => hold_mono k t v S hh k' hk) h
inductive HL (z : Bool) : List T → List T → List Ent → Prop
  | nil : HL z [] [] []
  | leaf {t v ts vs es} (h : ∀ σ d, hold z σ d t = some (v, [])) (r : HL z ts vs es) : HL z (t :: ts) (v :: vs) es
  | own {z' w t v ts vs es} (hz : (!z || z') = true) (r : HL z ts vs es) : HL z (t :: ts) (v :: vs) (.own z' w t v :: es)
  | agg {cs us es1 ts vs es2} (a : HL z cs us es1) (r : HL z ts vs es2) : HL z (.agg cs :: ts) (.agg us :: vs) (es1 ++ es2)
  | tup {cs us es1 ts vs es2} (a : HL z cs us es1) (r : HL z ts vs es2) : HL z (.tup cs :: ts) (.tup us :: vs) (es1 ++ es2)
theorem HL.sound {σ : St} {z ts vs es} (h : HL z ts vs es) : ∀ {F : List Nat}, HeapR σ es F → ∃ k, frzL (hold z σ k) ts = some (vs, F) := by
  induction h with
  | nil => intro F hF; cases hF; exact ⟨0, rfl⟩
  | leaf h r ih => intro F hF; obtain ⟨k, hk⟩ := ih hF; exact ⟨k, by simp only [frzL, h, Option.bind_some, hk, Option.map_some, List.nil_append]⟩
  | @own z' w t v ts vs es hz r ih =>
    intro F hF
    obtain ⟨S, F', rfl, ⟨_, _, k', h1⟩, h2⟩ := hF
    obtain ⟨k, hk⟩ := ih h2
    have h3 : hold z σ (max k k') t = some (v, S) := by
      have h4 := hold_mono k' t v S h1 (max k k') (Nat.le_max_right _ _)
      cases z with
      | true => cases z' with
        | true => exact h4
        | false => cases hz
      | false => cases z' with
        | true => exact hold_weak _ _ _ _ h4
        | false => exact h4
    exact ⟨max k k', by simp only [frzL, h3, Option.bind_some, frzLh_mono (Nat.le_max_left k k') hk, Option.map_some]⟩
  | @agg cs us es1 ts vs es2 a r iha ihr =>
    intro F hF
    obtain ⟨F1, F2, rfl, h1, h2⟩ := hF.split
    obtain ⟨k1, q1⟩ := iha h1
    obtain ⟨k2, q2⟩ := ihr h2
    have h3 : hold z σ (max k1 k2 + 1) (.agg cs) = some (.agg us, F1) := by simp only [hold, frzLh_mono (Nat.le_max_left k1 k2) q1, Option.map_some]
    exact ⟨max k1 k2 + 1, by simp only [frzL, h3, Option.bind_some, frzLh_mono (Nat.le_succ_of_le (Nat.le_max_right k1 k2)) q2, Option.map_some]⟩
  | @tup cs us es1 ts vs es2 a r iha ihr =>
    intro F hF
    obtain ⟨F1, F2, rfl, h1, h2⟩ := hF.split
    obtain ⟨k1, q1⟩ := iha h1
    obtain ⟨k2, q2⟩ := ihr h2
    have h3 : hold z σ (max k1 k2 + 1) (.tup cs) = some (.tup us, F1) := by simp only [hold, frzLh_mono (Nat.le_max_left k1 k2) q1, Option.map_some]
    exact ⟨max k1 k2 + 1, by simp only [frzL, h3, Option.bind_some, frzLh_mono (Nat.le_succ_of_le (Nat.le_max_right k1 k2)) q2, Option.map_some]⟩
@[simp] theorem hold_int (z : Bool) (σ : St) (d : Nat) (k : IntKind) (n : Int) : hold z σ d (.int k n) = some (.int k n, []) := by cases d <;> rfl
@[simp] theorem hold_bool (z : Bool) (σ : St) (d : Nat) (b : Bool) : hold z σ d (.bool b) = some (.bool b, []) := by cases d <;> rfl
@[simp] theorem hold_str (z : Bool) (σ : St) (d : Nat) (s : ByteArray) : hold z σ d (.str s) = some (.str s, []) := by cases d <;> rfl
@[simp] theorem hold_nilp (z : Bool) (σ : St) (d : Nat) : hold z σ d .nilp = some (.nilp, []) := by cases d <;> rfl
@[simp] theorem hold_nilf (z : Bool) (σ : St) (d : Nat) : hold z σ d .nilf = some (.nilf, []) := by cases d <;> rfl
@[simp] theorem hold_nili (z : Bool) (σ : St) (d : Nat) : hold z σ d .nili = some (.nili, []) := by cases d <;> rfl
@[simp] theorem hold_nilm (z : Bool) (σ : St) (d : Nat) : hold z σ d .nilm = some (.nilm, []) := by cases d <;> rfl
@[simp] theorem hold_nils (z : Bool) (σ : St) (d : Nat) : hold z σ d (.row true 0 []) = some (.row true 0 [], []) := by cases d <;> rfl
@[simp] theorem hold_pure {α : Type} [Enc α] (σ : St) (d : Nat) (s : Sl α) : hold false σ d s.t = some (s.t, []) := by
  obtain ⟨z, l⟩ := s
  cases z <;> cases l <;> cases d <;> simp [Sl.t, hold, cellsL]
@[simp] theorem hold_nilS {α : Type} [Enc α] (z : Bool) (σ : St) (d : Nat) : hold z σ d (Sl.t (⟨true, []⟩ : Sl α)) = some (Sl.t (⟨true, []⟩ : Sl α), []) := hold_nils z σ d
class Hld (z : Bool) (α : Type) [Enc α] : Prop where
  h : ∀ (a : α) (σ : St) (d : Nat), frzL (hold z σ d) (Enc.cells a) = some (Enc.cells a, [])
instance (z : Bool) : Hld z ByteArray := ⟨fun a σ d => by simp [Enc.cells]⟩
instance (z : Bool) : Hld z Bool := ⟨fun a σ d => by simp [Enc.cells]⟩
instance (z : Bool) (k : IntKind) : Hld z (Iv k) := ⟨fun a σ d => by simp [Enc.cells]⟩
instance {α : Type} [Enc α] : Hld false (Sl α) := ⟨fun a σ d => by simp [Enc.cells]⟩
theorem Hld.list {z : Bool} {α : Type} [Enc α] [Hld z α] (σ : St) (d : Nat) : ∀ l : List α, frzL (hold z σ d) (cellsL l) = some (cellsL l, [])
  | [] => rfl
  | a :: l => by simpa [cellsL] using frzL_append (Hld.h a σ d) (Hld.list σ d l)
def IsOne (t : T) : Prop := t.cells = [t] ∧ t.one = true
theorem isTop_one {t : T} (h : isTop t = true) : IsOne t := by
  cases t <;> simp [isTop] at h <;> exact ⟨rfl, rfl⟩
theorem Heap.head {σ0 σ : St} {e : Ent} {es : List Ent} (h : Heap σ0 σ (e :: es)) : ∃ S, EntOk σ e S ∧ S.Nodup ∧ ∀ b ∈ S, σ0.next ≤ b ∧ b < σ.next := by
  obtain ⟨F, ⟨S, F', rfl, h1, h2⟩, h3, h4⟩ := h.ex
  exact ⟨S, h1, (List.nodup_append.1 h3).1, fun b hb => h4 b (by simp [hb])⟩
theorem Heap.one {σ0 σ : St} {z w t v es} (h : Heap σ0 σ (.own z w t v :: es)) : IsOne t := by
  obtain ⟨S, h1, _⟩ := h.head
  exact isTop_one h1.1
theorem Heap.addEmp {σ0 σ : St} {es : List Ent} (h : Heap σ0 σ es) (z : Bool) (w : Nat) : Heap σ0 σ (.own z w .emp (.row false 0 []) :: es) :=
  Heap.step (es1 := []) (es2 := [.own z w .emp (.row false 0 [])]) (es := es) h (Nat.le_refl _) fun S hS _ _ => ⟨[], ⟨[], [], rfl, ⟨rfl, (fun _ _ _ _ _ h _ _ => by cases h), 0, rfl⟩, rfl⟩, by simp, by simp, fun _ _ _ => rfl⟩
def enumV : Nat → List T → List (Nat × T)
  | _, [] => []
  | i, v :: vs => (i, v) :: enumV (i + 1) vs
def allV (sz : Nat) : List T → Prop
  | [] => True
  | v :: vs => v.cells.length = sz ∧ v.cells.all T.one = true ∧ allV sz vs
theorem allV_len {sz : Nat} : ∀ (vs : List T), allV sz vs → (vs.flatMap T.cells).length = vs.length * sz
  | [], _ => by simp
  | v :: vs, h => by
    have := allV_len vs h.2.2
    simp only [List.flatMap_cons, List.length_append, List.length_cons, Nat.succ_mul, h.1, this]; omega
theorem fill_full {sz : Nat} (zc : List T) (hz : zc.length = sz) : ∀ (vs pre : List T) (i : Nat), pre.length = i * sz → allV sz vs →
    fillA (fun i => some (i * sz, sz)) (pre ++ (List.replicate vs.length zc).flatten) (enumV i vs) = some (pre ++ vs.flatMap T.cells)
  | [], pre, i, hp, _ => by simp [enumV, fillA]
  | v :: vs, pre, i, hp, h => by
    obtain ⟨h1, h2, h3⟩ := h
    simp only [enumV, fillA_cons, Option.bind_some, fill1_eq]
    rw [if_pos ⟨h1, by simp [hp, List.replicate_succ, hz], h2⟩]
    have e : splice (pre ++ (List.replicate (v :: vs).length zc).flatten) (i * sz) v.cells = (pre ++ v.cells) ++ (List.replicate vs.length zc).flatten := by
      simp only [splice, List.length_cons, List.replicate_succ, List.flatten_cons]
      rw [List.take_append_of_le_length (by omega), List.take_of_length_le (by omega), List.drop_append, List.drop_of_length_le (by omega), List.nil_append, h1, hp, show i * sz + sz - i * sz = sz by omega, List.drop_append, List.drop_of_length_le (by omega), List.nil_append, hz, Nat.sub_self, List.drop_zero]
    rw [e, fill_full zc hz vs (pre ++ v.cells) (i + 1) (by rw [List.length_append, hp, h1, Nat.succ_mul]) h3]
    simp
section
variable {P : Program} {O : Oracle} {ops : Array Oper} {l : List Oper} {K : Fr → Prop} {s : Nat → T} {σ σ0 : St} {L : List (Nat × T)} {es ents : List Ent}
variable {d : Option Nat} {ty : TypeId} {ps : String} {af : Array Edge} {g : Option (Nat × Bool)}
theorem Heap.mkRowK {z : Bool} {n sz : Nat} {cs us : List T} (h : Heap σ0 σ (ents ++ es)) {k : Option Nat} (hk : σ.okK k = true) (hbk : ∀ i, k = some i → σ0.next ≤ i) (hsz : sz ≠ 0) (hn0 : n ≠ 0) (hl : cs.length = n * sz) (h1 : cs.all T.one = true) (hh : HL z cs us ents) :
    Heap σ0 (σ.pushK k (mkBlk cs sz)) (.own z sz (.ref (σ.nid k) 0 0 n) (.row false n us) :: es) := by
  have h0 : σ0.next ≤ σ.nid k := by
    cases k with
    | none => exact h.grow.nx
    | some i => exact hbk i rfl
  have hf := okK_free hk
  refine Heap.stepN (es1 := ents) (es2 := [.own z sz (.ref (σ.nid k) 0 0 n) (.row false n us)]) (es := es) h pushK_nx (fun b hb' => by rw [pushK_blk, if_neg (by omega)]) fun S hS hn hb => ?_
  have hs : ∀ b ∈ S, (σ.pushK k (mkBlk cs sz)).blk b = σ.blk b := fun b hb' => pushK_old hk (hS.some b hb') (hb b hb').2
  obtain ⟨kk, hkk⟩ := hh.sound (hS.same hs)
  have hself : (σ.pushK k (mkBlk cs sz)).blk (σ.nid k) = some (mkBlk cs sz) := by rw [pushK_blk, if_pos rfl]
  have hnot : σ.nid k ∉ S := fun hm => by
    rcases hf with hf | ⟨hf, _⟩
    · have := (hb _ hm).2; omega
    · have := hS.some _ hm; rw [hf] at this; cases this
  refine ⟨σ.nid k :: S, ⟨σ.nid k :: S, [], by simp, ⟨rfl, (fun b e o n B h hB _ => by injection h with h; subst h; rw [hself] at hB; injection hB with hB; subst hB; rfl), kk + 1, ?_⟩, rfl⟩, List.nodup_cons.2 ⟨hnot, hn⟩, ?_, fun b hb' hs' _ => pushK_old hk hs' hb'⟩
  · simp only [hold, hself, Option.bind_some, mkBlk_cells, hkk, Option.map_some]
    rw [if_pos (by simp only [mkBlk]; exact ⟨fun _ => trivial, trivial, Nat.le_refl _, trivial, hl, hsz, h1, hn0⟩)]
  · intro b hb'
    rcases List.mem_cons.1 hb' with rfl | h
    · exact .inr ⟨h0, nid_ltK hk, hf.imp id fun h => h.1⟩
    · exact .inl h
theorem Heap.junk (h : Heap σ0 σ es) {k : Option Nat} (hk : σ.okK k = true) (hbk : ∀ i, k = some i → σ0.next ≤ i) (B : Blk) : Heap σ0 (σ.pushK k B) es := by
  have h0 : σ0.next ≤ σ.nid k := by
    cases k with
    | none => exact h.grow.nx
    | some i => exact hbk i rfl
  exact Heap.stepN (es1 := []) (es2 := []) (es := es) h pushK_nx (fun b hb' => by rw [pushK_blk, if_neg (by omega)]) fun S hS hn hb => ⟨[], rfl, by simp, by simp, fun b hb' hs' _ => pushK_old hk hs' hb'⟩
theorem allV_one {sz : Nat} : ∀ (vs : List T), allV sz vs → (vs.flatMap T.cells).all T.one = true
  | [], _ => rfl
  | v :: vs, h => by simp only [List.flatMap_cons, List.all_append, h.2.1, allV_one vs h.2.2, Bool.and_self]
theorem q_bsC {m : Mo} (hm : m.chg = true) (hmb : m.base σ0) {t e len sz : Nat} {parts : Array (Nat × Operand)} {z : Bool} {vs zc cs us : List T} {v : T} (hw : want ops L g = some true) (hS : Sub L s) (hH : Heap σ0 σ (ents ++ es)) (hg : gPs (get L) parts.toList = some (enumV 0 vs))
    (he : elemOfSl P t = some e) (hz : szOf P e = some sz) (hzz : zeroOf P e = some zc) (hl : (Nat.beq zc.length sz && Nat.beq vs.length len && Nat.ble (len * sz) 16777216 && !Nat.beq sz 0 && !Nat.beq len 0) = true) (hv : allV sz vs) (hc : vs.flatMap T.cells = cs)
    (hh : HL z cs us ents) (hr : T.row false len us = v)
    (kk : ∀ t' σ' s', IsOne t' → Heap σ0 σ' (.own z sz t' v :: es) → Sub (putL L d t') s' → opsX P O ops (nxM m) l K ⟨s', σ'⟩) : opsX P O ops m (⟨d, .buildSlice t len parts, ty, ps, af, g⟩ :: l) K ⟨s, σ⟩ := by
  simp only [Bool.and_eq_true, Bool.not_eq_true'] at hl
  obtain ⟨⟨⟨⟨l1, l2⟩, l3⟩, l4⟩, l5⟩ := hl
  have l1 := Nat.eq_of_beq_eq_true l1; have l2 := Nat.eq_of_beq_eq_true l2; have l3 := Nat.le_of_ble_eq_true l3; have l4 := Nat.ne_of_beq_eq_false l4; have l5 := Nat.ne_of_beq_eq_false l5
  subst hr
  have hlen : cs.length = len * sz := by rw [← hc, ← l2]; exact allV_len vs hv
  refine x_newC hm rfl (want_sound hS hw) fun k hk hi => ⟨T.ref (σ.nid k) 0 0 len, σ.pushK k (mkBlk cs sz), ?_, Cg.push hk, ?_⟩
  · rw [a_buildSlice, he, Option.bind_some, hz, Option.bind_some, hzz, Option.bind_some, gPs_sound hS hg, Option.bind_some, bldSlA_eq, if_pos ⟨l1, l3, l4, hk⟩]
    have := fill_full zc l1 vs [] 0 (by simp) hv
    simp only [List.nil_append, l2, hc] at this
    rw [this, if_neg l5]; rfl
  · rw [put_eq]; exact kk _ _ _ ⟨rfl, rfl⟩ (hH.mkRowK hk (Mo.inb_base hi hmb) l4 l5 hlen (by rw [← hc]; exact allV_one vs hv) hh) (sub_putL hS d _ σ)
theorem hold_top {z : Bool} {k : Nat} {t : T} {zz : Bool} {n : Nat} {cs : List T} {S : List Nat} (ht : isTop t = true) (h : hold z σ k t = some (.row zz n cs, S)) :
    (t = .row true 0 [] ∧ zz = true ∧ n = 0 ∧ cs = [] ∧ S = []) ∨ (t = .emp ∧ zz = false ∧ n = 0 ∧ cs = [] ∧ S = []) ∨
    (zz = false ∧ ∃ b B S' k', t = .ref b B.ep 0 n ∧ σ.blk b = some B ∧ (z = true → B.st = true) ∧ B.low ≤ B.ep ∧ B.cells.length = n * B.esz ∧ B.esz ≠ 0 ∧ B.cells.all T.one = true ∧ frzL (hold z σ k') B.cells = some (cs, S') ∧ S = b :: S') := by
  cases t with
  | row z' n' cs' =>
    cases z' <;> cases n' <;> cases cs' <;> simp [isTop] at ht
    simp at h; obtain ⟨⟨rfl, rfl, rfl⟩, rfl⟩ := h; simp
  | emp => cases k <;> simp [hold] at h <;> (obtain ⟨⟨rfl, rfl, rfl⟩, rfl⟩ := h; simp)
  | ref b e off n' =>
    cases k with
    | zero => simp [hold] at h
    | succ k =>
      simp only [hold] at h
      obtain ⟨B, hb, h1⟩ := Option.bind_eq_some_iff.1 h
      split at h1
      · rename_i hc
        obtain ⟨⟨us, S1⟩, h2, h3⟩ := Option.map_eq_some_iff.1 h1
        injection h3 with h3 h4; injection h3 with h5 h6 h7
        subst h4; subst h5; subst h6; subst h7
        obtain ⟨c1, rfl, c3, rfl, c5, c6, c7, _⟩ := hc
        exact .inr (.inr ⟨rfl, b, B, S1, k, rfl, hb, c1, c3, c5, c6, c7, h2, rfl⟩)
      · cases h1
  | _ => simp [isTop] at ht
theorem cellsL_replicate {α : Type} [Enc α] (x : α) : ∀ n, cellsL (List.replicate n x) = (List.replicate n (Enc.cells x)).flatten
  | 0 => rfl
  | n + 1 => by simp only [List.replicate_succ, cellsL, List.flatten_cons, cellsL_replicate x n]
def mkS {α : Type} (by_ : Nat) (x : α) (n c : Int) : Option (Sl α) := if 0 ≤ n ∧ n ≤ c ∧ c * by_ ≤ 1099511627776 ∧ c ≤ 1099511627776 ∧ (n = 0 → c = 0) then some ⟨false, List.replicate n.toNat x⟩ else none
theorem q_make {α : Type} [Enc α] {z : Bool} {x y : Operand} {k1 k2 : IntKind} {n c : Int} {t e by_ : Nat} {x0 : α} {r : Sl α} (hz0 : ∀ σ d, frzL (hold z σ d) (Enc.cells x0) = some (Enc.cells x0, [])) (hw : want ops L g = some true) (hS : Sub L s) (hH : Heap σ0 σ es)
    (hx : gE (get L) x = some (.int k1 n)) (hy : gE (get L) y = some (.int k2 c)) (he : elemOfSl P t = some e) (hz : szOf P e = some (Enc.w α)) (hby : bytesOf P e = some by_) (hzz : zeroOf P e = some (Enc.cells x0)) (hsz : Nat.beq (Enc.w α) 0 = false) (hc : mkS by_ x0 n c = some r)
    (kk : ∀ t' σ' s', IsOne t' → Heap σ0 σ' (.own z (Enc.w α) t' r.t :: es) → Sub (putL L d t') s' → opsX P O ops .q l K ⟨s', σ'⟩) : opsX P O ops .q (⟨d, .makeSlice t x y, ty, ps, af, g⟩ :: l) K ⟨s, σ⟩ := by
  have hsz := Nat.ne_of_beq_eq_false hsz
  unfold mkS at hc
  split at hc
  · rename_i hh
    injection hc with hc; subst hc
    have hlen : ((List.replicate n.toNat (Enc.cells x0)).flatten).length = n.toNat * Enc.w α := by simp [Enc.len]
    have hfr : ∀ (σ' : St) (m : Nat), frzL (hold z σ' 0) (cellsL (List.replicate m x0)) = some (cellsL (List.replicate m x0), []) := fun σ' m => by
      induction m with
      | zero => rfl
      | succ m ih => simpa [List.replicate_succ, cellsL] using frzL_append (hz0 σ' 0) ih
    have hrow : Sl.t (⟨false, List.replicate n.toNat x0⟩ : Sl α) = .row false n.toNat (cellsL (List.replicate n.toNat x0)) := by simp [Sl.t]
    by_cases hn0 : n = 0
    · have hc0 := hh.2.2.2.2 hn0
      refine x_new (v := .emp) (σ' := σ.pushK none (mkBlk ((List.replicate n.toNat (Enc.cells x0)).flatten) (Enc.w α))) (want_sound hS hw) ?_ ?_
      · rw [a_makeSlice, gE_sound hS hx, Option.bind_some, gE_sound hS hy, Option.bind_some, mkSlA_int, he, Option.bind_some, hz, Option.bind_some, hby, Option.bind_some, hzz, Option.bind_some, if_pos ⟨hh.1, hh.2.1, hh.2.2.1, hh.2.2.2.1, Enc.len x0, hsz, rfl⟩, if_pos ⟨hn0, hc0⟩]
      · rw [put_eq]
        refine kk _ _ _ ⟨rfl, rfl⟩ ?_ (sub_putL hS d _ σ)
        rw [hrow, hn0]
        exact (hH.junk (k := none) rfl (fun _ e => by cases e) _).addEmp z _
    · refine x_new (v := .ref σ.next 0 0 n.toNat) (σ' := σ.pushK none (mkBlk ((List.replicate n.toNat (Enc.cells x0)).flatten) (Enc.w α))) (want_sound hS hw) ?_ ?_
      · rw [a_makeSlice, gE_sound hS hx, Option.bind_some, gE_sound hS hy, Option.bind_some, mkSlA_int, he, Option.bind_some, hz, Option.bind_some, hby, Option.bind_some, hzz, Option.bind_some, if_pos ⟨hh.1, hh.2.1, hh.2.2.1, hh.2.2.2.1, Enc.len x0, hsz, rfl⟩, if_neg fun w => hn0 w.1]; rfl
      · rw [put_eq]
        refine kk _ _ _ ⟨rfl, rfl⟩ ?_ (sub_putL hS d _ σ)
        rw [hrow, ← cellsL_replicate]
        refine Heap.step (es1 := []) (es2 := [.own z (Enc.w α) (.ref σ.next 0 0 n.toNat) (.row false n.toNat (cellsL (List.replicate n.toNat x0)))]) (es := es) hH (by simp) fun S hS _ _ => ?_
        refine ⟨[σ.next], ⟨[σ.next], [], rfl, ⟨rfl, (fun b e o n B h hB _ => by injection h with h; subst h; rw [push_blk_self] at hB; injection hB with hB; subst hB; rfl), 1, ?_⟩, rfl⟩, by simp, fun b hb => by simp at hb; subst hb; exact .inr ⟨Nat.le_refl _, by simp⟩, fun b hb _ => by rw [push_blk, if_neg (by omega)]⟩
        simp only [hold, push_blk_self, Option.bind_some, mkBlk_cells, hfr, Option.map_some]
        rw [if_pos (by simp only [mkBlk]; exact ⟨fun _ => trivial, trivial, Nat.le_refl _, trivial, by rw [cellsL_replicate]; exact hlen, hsz, cellsL_one _, by have := hh.1; omega⟩)]
  · cases hc
theorem q_lenH {α : Type} [Enc α] {z : Bool} {x : Operand} {w : Nat} {t1 : T} {a : Sl α} {t : TypeId} {m : Mo} (hw : want ops L g = some true) (hS : Sub L s) (hH : Heap σ0 σ (.own z w t1 a.t :: es)) (hx : gE (get L) x = some t1) (hk : kindT P t = 4)
    (kk : ∀ s', Sub (putL L d (.int .i64 a.l.length)) s' → opsX P O ops (nxM m) l K ⟨s', σ⟩) : opsX P O ops m (⟨d, .call ⟨.builtin .len, #[x], #[t]⟩, ty, ps, af, g⟩ :: l) K ⟨s, σ⟩ := by
  obtain ⟨S, ⟨ht, hwd, k, h2⟩, _, _⟩ := hH.head
  have ea : a.t = .row a.z a.l.length (cellsL a.l) := rfl
  rw [ea] at h2
  have hl : lenA P σ t t1 = some (.int .i64 a.l.length) := by
    rcases hold_top ht h2 with ⟨rfl, hz, hn0, hcs, rfl⟩ | ⟨rfl, hz, hn0, hcs, rfl⟩ | ⟨hz, x, B, S', k', rfl, hB, _⟩
    · simp [hk, hn0]
    · simp [hk, hn0]
    · simp [hk]
  refine q_val hw hS (fun kk σ' _ => ?_) kk
  have ev : evals s [x] = some [t1] := by simp only [evals, gE_sound hS hx, Option.bind_some, Option.map_some]
  rw [a_len]
  show (evals s [x]).bind _ = _
  rw [ev, Option.bind_some, lenR_eq, lenA_st P σ' σ, hl]; rfl
end
section
variable {P : Program} {O : Oracle} {ops : Array Oper} {l : List Oper} {K : Fr → Prop} {s : Nat → T} {σ σ0 : St} {L : List (Nat × T)} {es ents : List Ent}
variable {d : Option Nat} {ty : TypeId} {ps : String} {af : Array Edge} {g : Option (Nat × Bool)}
theorem frzL_split {f : T → Option (T × List Nat)} : ∀ {ts vs : List T} {F : List Nat} (n : Nat), frzL f ts = some (vs, F) → ∃ F1 F2, F = F1 ++ F2 ∧ frzL f (ts.take n) = some (vs.take n, F1) ∧ frzL f (ts.drop n) = some (vs.drop n, F2)
  | ts, vs, F, 0, h => ⟨[], F, rfl, by simp [frzL], by simpa using h⟩
  | [], vs, F, n + 1, h => by simp [frzL] at h; obtain ⟨rfl, rfl⟩ := h; exact ⟨[], [], rfl, by simp [frzL], by simp [frzL]⟩
  | t :: ts, vs, F, n + 1, h => by
    simp only [frzL] at h
    obtain ⟨⟨v0, S0⟩, h1, h2⟩ := Option.bind_eq_some_iff.1 h
    obtain ⟨⟨us, S1⟩, h3, h4⟩ := Option.map_eq_some_iff.1 h2
    injection h4 with h4 h5; subst h4; subst h5
    obtain ⟨F1, F2, rfl, h6, h7⟩ := frzL_split n h3
    exact ⟨S0 ++ F1, F2, by simp, by simp only [List.take_succ_cons, frzL, h1, Option.bind_some, h6, Option.map_some], by simpa using h7⟩
theorem held_ref {α : Type} [Enc α] {z : Bool} {w : Nat} {t1 : T} {a : Sl α} {j : Int} {y : α} (hH : Heap σ0 σ (.own z w t1 a.t :: es)) (hy : elt a j = some y) : ∃ b ep, t1 = .ref b ep 0 a.l.length := by
  obtain ⟨S, ⟨ht, hwd, k, h2⟩, _, _⟩ := hH.head
  have ea : a.t = .row a.z a.l.length (cellsL a.l) := rfl
  rw [ea] at h2
  obtain ⟨q1, q2, q3⟩ := elt_some hy
  rcases hold_top ht h2 with ⟨rfl, hz, hn0, hcs, rfl⟩ | ⟨rfl, hz, hn0, hcs, rfl⟩ | ⟨hz, x, B, S', k', rfl, hB, _⟩
  · omega
  · omega
  · exact ⟨_, _, rfl⟩
theorem hold_esz {α : Type} [Enc α] {f : T → Option (T × List Nat)} {B : Blk} {a : List α} {S : List Nat} (h : B.cells.length = a.length * B.esz) (h3 : frzL f B.cells = some (cellsL a, S)) (hn : 0 < a.length) : B.esz = Enc.w α := by
  have h4 := frzL_length h3
  rw [cellsL_len, h] at h4
  exact (Nat.eq_of_mul_eq_mul_left hn h4).symm
theorem q_hidx {α : Type} [Enc α] {z : Bool} {w : Nat} {m : Mo} {x i : Operand} {t e : TypeId} {t1 : T} {a : Sl α} {kk : IntKind} {j : Int} {y : α} (hm : ∀ b e o n, t1 = .ref b e o n → m.lt b) (hw : want ops L g = some true) (hS : Sub L s) (hH : Heap σ0 σ (.own z w t1 a.t :: es)) (hx : gE (get L) x = some t1) (hi : gE (get L) i = some (.int kk j))
    (he : elemOfSl P t = some e) (hz : szOf P e = some (Enc.w α)) (hy : elt a j = some y)
    (k : ∀ b ep s', t1 = .ref b ep 0 a.l.length → Sub (putL L d (.ptr b ep (j.toNat * Enc.w α) (Enc.w α))) s' → opsX P O ops (nxM m) l K ⟨s', σ⟩) : opsX P O ops m (⟨d, .indexAddr t x i, ty, ps, af, g⟩ :: l) K ⟨s, σ⟩ := by
  obtain ⟨b, ep, hr⟩ := held_ref hH hy
  obtain ⟨q1, q2, q3⟩ := elt_some hy
  obtain ⟨S, ⟨ht, hwd, k', h2⟩, _, _⟩ := hH.head
  have ea : a.t = .row a.z a.l.length (cellsL a.l) := rfl
  rw [ea] at h2
  rcases hold_top ht h2 with ⟨rfl, hz, hn0, hcs, rfl⟩ | ⟨rfl, hz, hn0, hcs, rfl⟩ | ⟨hzz, x', B, S', k'', rfl, hB, c1, c3, c5, c6, c7, h3, rfl⟩
  · cases hr
  · cases hr
  · injection hr with e1 e2 _ _
    subst e1; subst e2
    refine q_val hw hS (fun kk σ' ha' => ?_) (fun s' => k x' B.ep s' rfl)
    rw [a_indexAddr, gE_sound hS hx, Option.bind_some, gE_sound hS hi, Option.bind_some, iA_ref, he, Option.bind_some, hz, Option.bind_some, Mo.al_blk ha' (hm _ _ _ _ rfl), hB, Option.bind_some, if_pos ⟨q1, q2, hold_esz c5 h3 (by omega)⟩, Nat.zero_add]; rfl
theorem q_hload {α : Type} [Enc α] {z : Bool} {w : Nat} {m : Mo} {ad : Operand} {t : TypeId} {t1 : T} {a : Sl α} {j : Int} {y : α} {b ep off n : Nat} {c : List T} {v : T} (hm : ∀ b e o n, t1 = .ref b e o n → m.lt b) (hw : want ops L g = some true) (hS : Sub L s) (hH : Heap σ0 σ (.own z w t1 a.t :: es)) (hr : t1 = .ref b ep 0 a.l.length)
    (ha : gE (get L) ad = some (.ptr b ep (j.toNat * Enc.w α + off) n)) (hy : elt a j = some y) (hc : Enc.cells y = c) (hag : aggOf P t = some false) (hv : c[off]? = some v) (hn : Nat.ble 1 n = true) (hlf : ∀ σ d t S, hold z σ d t = some (v, S) → t = v)
    (k : ∀ s', Sub (putL L d v) s' → opsX P O ops (nxM m) l K ⟨s', σ⟩) : opsX P O ops m (⟨d, .load t ad, ty, ps, af, g⟩ :: l) K ⟨s, σ⟩ := by
  obtain ⟨q1, q2, q3⟩ := elt_some hy
  obtain ⟨S, ⟨ht, hwd, k', h2⟩, _, _⟩ := hH.head
  have ea : a.t = .row a.z a.l.length (cellsL a.l) := rfl
  rw [ea] at h2
  rcases hold_top ht h2 with ⟨rfl, hz, hn0, hcs, rfl⟩ | ⟨rfl, hz, hn0, hcs, rfl⟩ | ⟨hzz, x', B, S', k'', rfl, hB, c1, c3, c5, c6, c7, h3, rfl⟩
  · cases hr
  · cases hr
  · injection hr with e1 e2 _ _
    subst e1; subst e2
    obtain ⟨F1, F2, _, _, h5⟩ := frzL_split (j.toNat * Enc.w α) h3
    rw [cellsL_at a.l j.toNat y q3, hc] at h5
    obtain ⟨F3, F4, _, _, h6⟩ := frzL_split off h5
    have hoff : off < c.length := (List.getElem?_eq_some_iff.1 hv).1
    have e1 : (c ++ cellsL (a.l.drop (j.toNat + 1))).drop off = v :: ((c ++ cellsL (a.l.drop (j.toNat + 1))).drop (off + 1)) := by
      rw [List.drop_eq_getElem_cons (by simp; omega)]
      congr 1
      rw [List.getElem_append_left hoff]
      exact (List.getElem?_eq_some_iff.1 hv).2
    rw [e1, List.drop_drop] at h6
    have hlen : (B.cells.drop (j.toNat * Enc.w α + off)) ≠ [] := fun h => by rw [h] at h6; simp [frzL] at h6
    obtain ⟨c0, cr, hcr⟩ := List.exists_cons_of_ne_nil hlen
    rw [hcr] at h6
    simp only [frzL] at h6
    obtain ⟨p, h7, h8⟩ := Option.bind_eq_some_iff.1 h6
    obtain ⟨q, h9, h10⟩ := Option.map_eq_some_iff.1 h8
    injection h10 with h10 _
    injection h10 with h10 _
    have hcv : c0 = v := hlf σ k'' c0 p.2 (by rw [h7, ← h10])
    refine q_val hw hS (fun kk σ' ha' => ?_) k
    rw [a_load, gE_sound hS ha, Option.bind_some, loadA_ptr, Mo.al_blk ha' (hm _ _ _ _ rfl), hB, Option.bind_some, if_pos c3, part_eq, hag, Option.bind_some, partA_false, hcr, hcv]
    have := Nat.le_of_ble_eq_true hn
    obtain ⟨n, rfl⟩ : ∃ k, n = k + 1 := ⟨n - 1, by omega⟩
    simp
theorem leaf_int {z : Bool} {k : IntKind} {n : Int} : ∀ (σ : St) (d : Nat) (t : T) (S : List Nat), hold z σ d t = some (.int k n, S) → t = .int k n := fun σ d t S h => by
  cases t with
  | row zz m cs => have := (hold_row h).1; cases this
  | ref b e o m =>
    cases d with
    | zero => simp [hold] at h
    | succ d =>
      simp only [hold] at h
      obtain ⟨B, _, h⟩ := Option.bind_eq_some_iff.1 h
      split at h
      · obtain ⟨q, _, h⟩ := Option.map_eq_some_iff.1 h; injection h with h _; cases h
      · cases h
  | agg cs => cases d <;> simp [hold] at h
  | tup cs => cases d <;> simp [hold] at h
  | emp => cases d <;> simp [hold] at h
  | _ => cases d <;> simp [hold] at h <;> simp_all
theorem leaf_bool {z : Bool} {n : Bool} : ∀ (σ : St) (d : Nat) (t : T) (S : List Nat), hold z σ d t = some (.bool n, S) → t = .bool n := fun σ d t S h => by
  cases t with
  | row zz m cs => have := (hold_row h).1; cases this
  | ref b e o m =>
    cases d with
    | zero => simp [hold] at h
    | succ d =>
      simp only [hold] at h
      obtain ⟨B, _, h⟩ := Option.bind_eq_some_iff.1 h
      split at h
      · obtain ⟨q, _, h⟩ := Option.map_eq_some_iff.1 h; injection h with h _; cases h
      · cases h
  | agg cs => cases d <;> simp [hold] at h
  | tup cs => cases d <;> simp [hold] at h
  | emp => cases d <;> simp [hold] at h
  | _ => cases d <;> simp [hold] at h <;> simp_all
theorem leaf_str {z : Bool} {n : ByteArray} : ∀ (σ : St) (d : Nat) (t : T) (S : List Nat), hold z σ d t = some (.str n, S) → t = .str n := fun σ d t S h => by
  cases t with
  | row zz m cs => have := (hold_row h).1; cases this
  | ref b e o m =>
    cases d with
    | zero => simp [hold] at h
    | succ d =>
      simp only [hold] at h
      obtain ⟨B, _, h⟩ := Option.bind_eq_some_iff.1 h
      split at h
      · obtain ⟨q, _, h⟩ := Option.map_eq_some_iff.1 h; injection h with h _; cases h
      · cases h
  | agg cs => cases d <;> simp [hold] at h
  | tup cs => cases d <;> simp [hold] at h
  | emp => cases d <;> simp [hold] at h
  | _ => cases d <;> simp [hold] at h <;> simp_all
def setS {α : Type} (a : Sl α) (j : Int) (y : α) : Sl α := ⟨a.z, a.l.set j.toNat y⟩
theorem cellsL_set {α : Type} [Enc α] : ∀ (l : List α) (i : Nat) (x y : α), l[i]? = some x → cellsL (l.set i y) = (cellsL l).take (i * Enc.w α) ++ Enc.cells y ++ (cellsL l).drop (i * Enc.w α + Enc.w α)
  | [], i, x, y, h => by simp at h
  | a :: l, 0, x, y, h => by simp [cellsL, Enc.len]
  | a :: l, i + 1, x, y, h => by
    have ih := cellsL_set l i x y (by simpa using h)
    simp only [List.set_cons_succ, cellsL, ih]
    rw [List.take_append, List.drop_append, Enc.len, List.take_of_length_le (l := Enc.cells a) (by rw [Enc.len, Nat.succ_mul]; omega), List.drop_of_length_le (l := Enc.cells a) (by rw [Enc.len, Nat.succ_mul]; omega), show (i + 1) * Enc.w α - Enc.w α = i * Enc.w α by rw [Nat.succ_mul]; omega, show (i + 1) * Enc.w α + Enc.w α - Enc.w α = i * Enc.w α + Enc.w α by rw [Nat.succ_mul]; omega]
    simp
theorem splice_row (A c R vs : List T) (p o n w : Nat) (hA : A.length = p) (hc : c.length = w) (h : o + n ≤ w) :
    A ++ (c.take o ++ vs ++ c.drop (o + n)) ++ (A ++ (c ++ R)).drop (p + w) = (A ++ (c ++ R)).take (p + o) ++ vs ++ ((A ++ (c ++ R)).drop (p + o)).drop n := by
  subst hA; subst hc
  have e1 : (A ++ (c ++ R)).drop (A.length + c.length) = R := by rw [← List.drop_drop, List.drop_left, List.drop_left]
  have e2 : (A ++ (c ++ R)).take (A.length + o) = A ++ c.take o := by
    rw [List.take_append, List.take_of_length_le (by omega), Nat.add_sub_cancel_left, List.take_append_of_le_length (by omega)]
  have e3 : ((A ++ (c ++ R)).drop (A.length + o)).drop n = c.drop (o + n) ++ R := by
    rw [← List.drop_drop, List.drop_left, List.drop_drop, List.drop_append_of_le_length (by omega)]
  rw [e1, e2, e3]; simp
theorem q_hstoreC {m : Mo} (hmc : m.chg = true) {α : Type} [Enc α] {w : Nat} {ad x : Operand} {t : TypeId} {t1 : T} {a : Sl α} {j : Int} {y y' : α} {b ep off n : Nat} {c us vs : List T} {v : T} (hwr : m.wr b) (hw : want ops L g = some true) (hS : Sub L s) (hH : Heap σ0 σ (.own true w t1 a.t :: ents ++ es)) (hr : t1 = .ref b ep 0 a.l.length)
    (ha : gE (get L) ad = some (.ptr b ep (j.toNat * Enc.w α + off) n)) (hx : gE (get L) x = some v) (hcs : v.cells = us) (h1 : us.all T.one = true) (hsz : szOf P t = some us.length) (hn : Nat.ble us.length n = true) (hy : elt a j = some y) (hc : Enc.cells y = c)
    (hh : HL true us vs ents) (hb : Nat.ble (off + us.length) (Enc.w α) = true) (hc' : Enc.cells y' = c.take off ++ vs ++ c.drop (off + us.length))
    (k : ∀ σ' s', Heap σ0 σ' (.own true w t1 (setS a j y').t :: es) → Sub (putL L d (.tup [])) s' → opsX P O ops (nxM m) l K ⟨s', σ'⟩) : opsX P O ops m (⟨d, .store t ad x, ty, ps, af, g⟩ :: l) K ⟨s, σ⟩ := by
  obtain ⟨q1, q2, q3⟩ := elt_some hy
  subst hr
  obtain ⟨S, ⟨ht, hwd, k', h2⟩, _, _⟩ := hH.head
  have ea : a.t = .row a.z a.l.length (cellsL a.l) := rfl
  rw [ea] at h2
  rcases hold_top ht h2 with ⟨hq, _⟩ | ⟨hq, _⟩ | ⟨hzz, x', B, S', k'', hq, hB, c1, c3, c5, c6, c7, h3, rfl⟩
  · cases hq
  · cases hq
  injection hq with e1 e2 _ _
  subst e1; subst e2
  have hesz := hold_esz c5 h3 (by omega)
  have hb := Nat.le_of_ble_eq_true hb
  have hn := Nat.le_of_ble_eq_true hn
  have hpos : j.toNat * Enc.w α + off + us.length ≤ B.cells.length := by
    rw [c5, hesz]
    have : (j.toNat + 1) * Enc.w α ≤ a.l.length * Enc.w α := Nat.mul_le_mul_right _ (by omega)
    rw [Nat.succ_mul] at this; omega
  have hcl : c.length = Enc.w α := by rw [← hc, Enc.len]
  obtain ⟨pos, hpos0⟩ : ∃ pos, pos = j.toNat * Enc.w α + off := ⟨_, rfl⟩
  have hvs : vs.length = us.length := by
    have h4 := Enc.len y'
    rw [hc'] at h4
    simp only [List.length_append, List.length_take, List.length_drop, hcl] at h4
    omega
  refine x_skipC (σ' := σ.set b { B with cells := splice B.cells pos us, low := B.ep, ver := B.ver + 1 }) hmc rfl (want_sound hS hw) (fun kk => ?_) (fun kk => ⟨Nat.le_refl _, fun y _ _ => by
    rw [set_blk]; split
    · rename_i e; subst e; exact .inr ⟨hwr, by rw [hB]; rfl⟩
    · exact .inl rfl⟩) ?_
  · rw [a_store, gE_sound hS ha, Option.bind_some, gE_sound hS hx, Option.bind_some, storeA_ptr, hB, Option.bind_some, hsz, Option.bind_some, hcs, if_pos ⟨c1 rfl, rfl, rfl, hn, hpos, h1⟩, hpos0]; rfl
  · rw [put_eq]
    refine k _ _ ?_ (sub_putL hS d _ σ)
    refine Heap.step (es1 := .own true w (.ref b B.ep 0 a.l.length) a.t :: ents) (es2 := [.own true w (.ref b B.ep 0 a.l.length) (setS a j y').t]) (es := es) hH (by simp) fun F hF hnd hbd => ?_
    obtain ⟨S1, F1, rfl, ⟨_, _, k5, h5⟩, h4⟩ := hF
    have : S1 = b :: S' := by
      have e1 := hold_mono k' _ _ _ h2 (max k' k5) (Nat.le_max_left _ _)
      have e2 := hold_mono k5 _ _ _ h5 (max k' k5) (Nat.le_max_right _ _)
      rw [ea, e1] at e2; injection e2 with e2; injection e2 with _ e2; exact e2.symm
    subst this
    obtain ⟨n1, n2, n3⟩ := List.nodup_append.1 hnd
    obtain ⟨n4, n5⟩ := List.nodup_cons.1 n1
    have hxF : b ∉ F1 := fun h => n3 b (by simp) b h rfl
    have hs : ∀ y, y ≠ b → (σ.set b { B with cells := splice B.cells pos us, low := B.ep, ver := B.ver + 1 }).blk y = σ.blk y := fun y hne => by rw [set_blk, if_neg hne]
    obtain ⟨k2, h6⟩ := hh.sound (h4.same fun x hx => hs x fun e => by subst e; exact hxF hx)
    obtain ⟨G1, G2, rfl, h7, h8⟩ := frzL_split pos h3
    obtain ⟨G3, G4, rfl, h9, h10⟩ := frzL_split us.length h8
    have cg : ∀ {ts ws : List T} {G : List Nat}, (∀ x ∈ G, x ∈ G1 ++ (G3 ++ G4)) → frzL (hold true σ k'') ts = some (ws, G) → frzL (hold true (σ.set b { B with cells := splice B.cells pos us, low := B.ep, ver := B.ver + 1 }) k'') ts = some (ws, G) := fun hG h =>
      frzL_congr (fun t v S'' _ hq hq2 => hold_same k'' t v S'' (fun x hx => hs x fun e => by subst e; exact n4 (hG _ (hq2 _ hx))) hq) h
    have r1 := cg (fun x hx => by simp [hx]) h7
    have r2 := cg (fun x hx => by simp [hx]) h10
    have r3 := frzL_append (frzL_append (frzLh_mono (Nat.le_max_left k'' k2) r1) (frzLh_mono (Nat.le_max_right k'' k2) h6)) (frzLh_mono (Nat.le_max_left k'' k2) r2)
    refine ⟨b :: (G1 ++ F1 ++ G4), ⟨b :: (G1 ++ F1 ++ G4), [], by simp, ⟨rfl, (fun b' e o n B' h hB' _ => by injection h with h; subst h; rw [set_blk_self] at hB'; injection hB' with hB'; subst hB'; show B.esz = w; exact hwd _ _ _ _ B rfl hB ‹w ≠ 0›), max k'' k2 + 1, ?_⟩, rfl⟩, ?_, ?_, fun y hy hm => hs y fun e => hm (by simp [e])⟩
    · have hcells : cellsL (setS a j y').l = (cellsL a.l).take pos ++ vs ++ ((cellsL a.l).drop pos).drop us.length := by
        simp only [setS]
        rw [cellsL_set a.l j.toNat y y' q3, hc', hpos0]
        have hd := cellsL_at a.l j.toNat y q3
        rw [hc] at hd
        have hsplit : cellsL a.l = (cellsL a.l).take (j.toNat * Enc.w α) ++ (c ++ cellsL (a.l.drop (j.toNat + 1))) := by rw [← hd, List.take_append_drop]
        have hl0 : ((cellsL a.l).take (j.toNat * Enc.w α)).length = j.toNat * Enc.w α := by
          rw [List.length_take, cellsL_len]
          have : (j.toNat + 1) * Enc.w α ≤ a.l.length * Enc.w α := Nat.mul_le_mul_right _ (by omega)
          rw [Nat.succ_mul] at this; omega
        generalize (cellsL a.l).take (j.toNat * Enc.w α) = A at hsplit hl0
        generalize cellsL (a.l.drop (j.toNat + 1)) = R at hsplit
        rw [hsplit]
        have := splice_row A c R vs (j.toNat * Enc.w α) off us.length (Enc.w α) hl0 hcl hb
        exact this
      simp only [hold, set_blk_self, Option.bind_some, splice_eq, Sl.t]
      have hll : (setS a j y').l.length = a.l.length := by simp [setS]
      simp only [splice_eq] at r3
      rw [hll, hcells, ← List.drop_drop]
      rw [← List.drop_drop] at r3
      have hall : (List.take pos B.cells ++ us ++ List.drop us.length (List.drop pos B.cells)).all T.one = true := by
        rw [List.all_append, List.all_append, h1, Bool.and_true, Bool.and_eq_true]
        rw [List.all_eq_true] at c7
        exact ⟨List.all_eq_true.2 fun x hx => c7 x (List.mem_of_mem_take hx), List.all_eq_true.2 fun x hx => c7 x (List.mem_of_mem_drop (List.mem_of_mem_drop hx))⟩
      have hz : (setS a j y').z = false := hzz
      rw [r3, if_pos ⟨fun _ => c1 rfl, trivial, Nat.le_refl _, trivial, by simp only [List.length_append, List.length_take, List.length_drop]; rw [← c5]; omega, c6, hall, by omega⟩, hz]
      try rfl
    · refine List.nodup_cons.2 ⟨fun hm => ?_, ?_⟩
      · simp only [List.mem_append] at hm
        rcases hm with (hm | hm) | hm
        · exact n4 (by simp [hm])
        · exact hxF hm
        · exact n4 (by simp [hm])
      · obtain ⟨u1, u2, u3⟩ := List.nodup_append.1 n5
        obtain ⟨u4, u5, u6⟩ := List.nodup_append.1 u2
        refine List.nodup_append.2 ⟨List.nodup_append.2 ⟨u1, n2, fun x hx y hy => n3 x (by simp [hx]) y hy⟩, u5, fun x hx y hy => ?_⟩
        rcases List.mem_append.1 hx with hx | hx
        · exact u3 x hx y (by simp [hy])
        · exact fun e => n3 y (by simp [hy]) x hx e.symm
    · intro x hx
      refine .inl ?_
      simp only [List.mem_cons, List.mem_append] at hx ⊢
      rcases hx with rfl | (hx | hx) | hx
      · simp
      · simp [hx]
      · simp [hx]
      · simp [hx]
theorem q_hstore {α : Type} [Enc α] {w : Nat} {ad x : Operand} {t : TypeId} {t1 : T} {a : Sl α} {j : Int} {y y' : α} {b ep off n : Nat} {c us vs : List T} {v : T} (hw : want ops L g = some true) (hS : Sub L s) (hH : Heap σ0 σ (.own true w t1 a.t :: ents ++ es)) (hr : t1 = .ref b ep 0 a.l.length)
    (ha : gE (get L) ad = some (.ptr b ep (j.toNat * Enc.w α + off) n)) (hx : gE (get L) x = some v) (hcs : v.cells = us) (h1 : us.all T.one = true) (hsz : szOf P t = some us.length) (hn : Nat.ble us.length n = true) (hy : elt a j = some y) (hc : Enc.cells y = c)
    (hh : HL true us vs ents) (hb : Nat.ble (off + us.length) (Enc.w α) = true) (hc' : Enc.cells y' = c.take off ++ vs ++ c.drop (off + us.length))
    (k : ∀ σ' s', Heap σ0 σ' (.own true w t1 (setS a j y').t :: es) → Sub (putL L d (.tup [])) s' → opsX P O ops .q l K ⟨s', σ'⟩) : opsX P O ops .q (⟨d, .store t ad x, ty, ps, af, g⟩ :: l) K ⟨s, σ⟩ :=
  q_hstoreC (m := .q) rfl trivial hw hS hH hr ha hx hcs h1 hsz hn hy hc hh hb hc' k
end
section
variable {P : Program} {md : Nat → Md} {X : Ext} {β : Type} {eb : β → T} {f : Nat} {r : β}
variable {ops : Array Oper} {m : Mo} {l : List Oper} {K : Fr → Prop} {s : Nat → T} {σ σ0 : St} {L : List (Nat × T)} {es ents : List Ent}
variable {d : Option Nat} {ty : TypeId} {ps : String} {af : Array Edge} {g : Option (Nat × Bool)}
theorem HL.frz {z : Bool} {ts vs : List T} (hH : Heap σ0 σ (ents ++ es)) (hh : HL z ts vs ents) : ∃ D S, frzL (frz σ D) ts = some (vs, S) ∧ HeapR σ ents S ∧ S.Nodup ∧ ∀ b ∈ S, σ0.next ≤ b ∧ b < σ.next := by
  obtain ⟨F, h1, h2, h3⟩ := hH.ex
  obtain ⟨F1, F2, rfl, h4, h5⟩ := h1.split
  obtain ⟨k, hk⟩ := hh.sound h4
  exact ⟨k, F1, frzL_congr (fun t v S _ hq _ => hold_frz k t v S hq) hk, h4, (List.nodup_append.1 h2).1, fun b hb => h3 b (by simp [hb])⟩
theorem q_callH {z : Bool} {fo : Operand} {as : Array Operand} {tys : Array TypeId} {ts vs : List T} (hw : want ops L g = some true) (hS : Sub L s) (hf : gE (get L) fo = some (.fn f [] [])) (ha : gEs (get L) as.toList = some ts)
    (hv : md f = .view) (hH : Heap σ0 σ (ents ++ es)) (hh : HL z ts vs ents) (hr : semV P md X eb f vs = some r) (hl : leafT (eb r) = true)
    (k : ∀ s', Sub (putL L d (eb r)) s' → opsX P (run P md X) ops (nxM m) l K ⟨s', σ⟩) (hvw : m.vw = false) : opsX P (run P md X) ops m (⟨d, .call ⟨.value fo, as, tys⟩, ty, ps, af, g⟩ :: l) K ⟨s, σ⟩ := by
  obtain ⟨D, S, h1, _, _, _⟩ := hh.frz hH
  refine q_callV hw hS hf ha (r := eb r) ?_ (fun e => by rw [hvw] at e; cases e) k
  simp only [List.nil_append, List.append_nil]
  exact run_frz hv h1 hl (semV_spec hr (σ.mark S))
def Ent.weak : Ent → Ent
  | .own _ w t v => .own false w t v
  | e => e
def Ent.isOwn : Ent → Bool
  | .own .. => true
  | _ => false
theorem hold_mark {z : Bool} {σ : St} {S : List Nat} : ∀ (k : Nat) (t v : T) (F : List Nat), hold z σ k t = some (v, F) → hold false (σ.mark S) k t = some (v, F)
  | 0, t, v, F, h => by
    cases z with
    | true => have := hold_weak _ _ _ _ h; cases t with
      | row zz n cs => exact hold_row2 this
      | _ => simp [hold] at this <;> simp [hold, this]
    | false => cases t with
      | row zz n cs => exact hold_row2 h
      | _ => simp [hold] at h <;> simp [hold, h]
  | d + 1, t, v, F, h => by
    have h : hold false σ (d + 1) t = some (v, F) := by cases z with
      | true => exact hold_weak _ _ _ _ h
      | false => exact h
    cases t with
    | ref b e off n =>
      simp only [hold] at h
      obtain ⟨B, hb, h1⟩ := Option.bind_eq_some_iff.1 h
      split at h1
      · rename_i hc
        obtain ⟨⟨cs, S1⟩, h2, h3⟩ := Option.map_eq_some_iff.1 h1
        injection h3 with h3 h4; subst h3; subst h4
        have h5 := frzL_congr (g := hold false (σ.mark S) d) (fun t v S' _ hh _ => hold_mark d t v S' hh) h2
        simp only [hold, St.mark, hb, Option.map_some, Option.bind_some]
        have hm : ∀ B', B' = (if b ∈ S then { B with st := false } else B) → B'.cells = B.cells ∧ B'.ep = B.ep ∧ B'.low = B.low ∧ B'.esz = B.esz := fun B' h => by subst h; split <;> exact ⟨rfl, rfl, rfl, rfl⟩
        obtain ⟨m1, m2, m3, m4⟩ := hm _ rfl
        rw [m1, m2, m3, m4]
        rw [if_pos ⟨(fun h => by cases h), hc.2⟩]
        have h5' : frzL (hold false ⟨σ.next, fun i => Option.map (fun B => if i ∈ S then { B with st := false } else B) (σ.blk i)⟩ d) B.cells = some (cs, S1) := h5
        rw [h5']; rfl
      · cases h1
    | agg cs =>
      simp only [hold] at h
      obtain ⟨⟨cs', S1⟩, h2, h3⟩ := Option.map_eq_some_iff.1 h
      injection h3 with h3 h4; subst h3; subst h4
      simp only [hold, frzL_congr (g := hold false (σ.mark S) d) (fun t v S' _ hh _ => hold_mark d t v S' hh) h2, Option.map_some]
    | tup cs =>
      simp only [hold] at h
      obtain ⟨⟨cs', S1⟩, h2, h3⟩ := Option.map_eq_some_iff.1 h
      injection h3 with h3 h4; subst h3; subst h4
      simp only [hold, frzL_congr (g := hold false (σ.mark S) d) (fun t v S' _ hh _ => hold_mark d t v S' hh) h2, Option.map_some]
    | row zz n cs => exact hold_row2 h
    | _ => simp [hold] at h <;> simp [hold, h]
theorem HeapR.mark {S : List Nat} : ∀ {es : List Ent} {F : List Nat}, es.all Ent.isOwn = true → HeapR σ es F → HeapR (σ.mark S) (es.map Ent.weak) F
  | [], F, _, h => h
  | e :: es, F, ho, h => by
    simp only [List.all_cons, Bool.and_eq_true] at ho
    obtain ⟨S1, F', rfl, h1, h2⟩ := h
    refine ⟨S1, F', rfl, ?_, h2.mark ho.2⟩
    cases e with
    | own z w t v =>
      obtain ⟨k1, k2, k, k3⟩ := h1
      refine ⟨k1, fun b e o n B ht hB hw0 => ?_, k, hold_mark k t v S1 k3⟩
      obtain ⟨B', q1, q2⟩ := mark_blk hB
      have := k2 b e o n B' ht q1 hw0
      rw [q2]; split <;> exact this
    | _ => simp [Ent.isOwn] at ho
def endW (P : Program) (rs : List ResultVar) (σ0 : St) (r : T) : AExit → Fr → Prop
  | .exit _, _ => False
  | .normal, fr => ∃ l D S, resL P fr rs = some l ∧ Go.Am.frz fr.σ D (tupOf l) = some (r, S) ∧ pureT r = true ∧ Grow σ0 fr.σ ∧ ∀ b ∈ S, σ0.next ≤ b
  | .ret, fr => ∃ l D S, resL P fr rs = some l ∧ Go.Am.frz fr.σ D (tupOf l) = some (r, S) ∧ pureT r = true ∧ Grow σ0 fr.σ ∧ ∀ b ∈ S, σ0.next ≤ b
theorem view_ofW {c : Code} {n : Nat} {rs : List ResultVar} {args : List T} {σ : St} {r : T} {D : Nat} (hv : md f = .view) (hX : X f = none) (hok : Ok P f c n rs) (hlen : args.length ≤ n) (hargs : frzL (Go.Am.frz σ D) args = some (args, []))
    (h : codeQ P (run P md X) c (endW P rs σ r) ⟨enterS args, σ⟩) : run P md X f args σ = some (r, σ) := by
  obtain ⟨fn, h1, h2, h3, h4, h5, h6⟩ := hok
  obtain ⟨x, fr, k1, k2⟩ := codeQ_sound h
  have hx : (x = .normal ∨ x = .ret) ∧ ∃ l D S, resL P fr rs = some l ∧ Go.Am.frz fr.σ D (tupOf l) = some (r, S) ∧ pureT r = true ∧ Grow σ fr.σ ∧ ∀ b ∈ S, σ.next ≤ b := by
    cases x with
    | normal => exact ⟨.inl rfl, k2⟩
    | ret => exact ⟨.inr rfl, k2⟩
    | exit i => exact k2.elim
  obtain ⟨hx, l, D2, S2, m1, m2, m3, m4, m5⟩ := hx
  have := run_view (P := P) (vm := md) (X := X) (σ := σ) (S2 := S2) (r' := r) hv hX h1 h2 h3 h4 (by rw [h5]; exact hlen) hargs (by rw [mark_nil]; exact k1) hx (by rw [resA, h6, m1]; rfl) m2 m3 (fun i hi => by rw [mark_nil]; exact m4.old i hi)
  rw [this, filter_new m5, mark_nil, mark_nil]
  simp
theorem semW_of {c : Code} {n : Nat} {rs : List ResultVar} {args : List T} (hi : ∀ a b, eb a = eb b → a = b) (hv : md f = .view) (hX : X f = none) (hok : Ok P f c n rs) (hlen : Nat.ble args.length n = true) (hf : args.all flat3 = true)
    (h : ∀ σ s, Sub (nums 0 args) s → Heap σ σ [] → codeQ P (run P md X) c (endW P rs σ (eb r)) ⟨s, σ⟩) : semV P md X eb f args = some r :=
  semV_intro hi fun σ => view_ofW hv hX hok (Nat.le_of_ble_eq_true hlen) (frzL_flat hf) (h σ _ (sub_enter args) (Heap.nil σ))
theorem end_W {rs : List ResultVar} {l : List T} {r : T} (hH : Heap σ0 σ es) (hl : resL P ⟨s, σ⟩ rs = some l) (hr : tupOf l = r) (hf : flat3 r = true) (hp : pureT r = true) : endW P rs σ0 r .ret ⟨s, σ⟩ :=
  ⟨l, 2, [], hl, by rw [hr]; exact frz_flat3 (d := 0) hf, hp, hH.grow, by simp⟩
structure Shape (β : Type) where
  n : Nat
  tree : List T → β → T
  en : List T → β → List Ent
  eb : β → T
  ok : ∀ hs r, hs.length = n → HL true [tree hs r] [eb r] (en hs r)
  inj : ∀ a b, eb a = eb b → a = b
def OwnR (P : Program) (md : Nat → Md) (X : Ext) (Sh : Shape β) (f : Nat) (args : List T) (r : β) : Prop :=
  ∀ σ, ∃ hs σ', hs.length = Sh.n ∧ run P md X f args σ = some (Sh.tree hs r, σ') ∧ Heap σ σ' (Sh.en hs r)
noncomputable def semO (P : Program) (md : Nat → Md) (X : Ext) (Sh : Shape β) (f : Nat) (args : List T) : Option β :=
  if h : ∃ r, OwnR P md X Sh f args r then some (Classical.choose h) else none
theorem semO_spec {Sh : Shape β} {args : List T} (h : semO P md X Sh f args = some r) : OwnR P md X Sh f args r := by
  unfold semO at h
  split at h
  · rename_i hx; injection h with h; subst h; exact Classical.choose_spec hx
  · cases h
theorem OwnR.uniq {Sh : Shape β} {args : List T} {r r' : β} (h : OwnR P md X Sh f args r) (h' : OwnR P md X Sh f args r') : r = r' := by
  obtain ⟨hs, σ', h1, h2, h3⟩ := h St.empty'
  obtain ⟨hs', σ2, h4, h5, h6⟩ := h' St.empty'
  rw [h2] at h5; injection h5 with h5; injection h5 with h5 h7
  subst h7
  obtain ⟨D, S, k1, _⟩ := (Sh.ok hs r h1).frz (es := []) (by simpa using h3)
  obtain ⟨D', S', k2, _⟩ := (Sh.ok hs' r' h4).frz (es := []) (by simpa using h6)
  rw [← h5] at k2
  have := frzL_uniq k1 k2
  injection this with e _
  injection e with e _
  exact Sh.inj _ _ e
theorem semO_intro {Sh : Shape β} {args : List T} (h : OwnR P md X Sh f args r) : semO P md X Sh f args = some r := by
  have hx : ∃ r, OwnR P md X Sh f args r := ⟨r, h⟩
  unfold semO
  rw [dif_pos hx, OwnR.uniq (Classical.choose_spec hx) h]
def endOw (P : Program) (rs : List ResultVar) (σ0 : St) (Sh : Shape β) (r : β) : AExit → Fr → Prop
  | .exit _, _ => False
  | .normal, fr => ∃ l hs es, resL P fr rs = some l ∧ tupOf l = Sh.tree hs r ∧ hs.length = Sh.n ∧ Heap σ0 fr.σ (Sh.en hs r ++ es)
  | .ret, fr => ∃ l hs es, resL P fr rs = some l ∧ tupOf l = Sh.tree hs r ∧ hs.length = Sh.n ∧ Heap σ0 fr.σ (Sh.en hs r ++ es)
theorem end_Ow {Sh : Shape β} {rs : List ResultVar} {l : List T} {L1 : List Ent} (hs : List T) (es : List Ent) (hl : resL P ⟨s, σ⟩ rs = some l) (ht : tupOf l = Sh.tree hs r) (hn : hs.length = Sh.n) (hH : Heap σ0 σ L1) (he : L1 = Sh.en hs r ++ es) : endOw P rs σ0 Sh r .ret ⟨s, σ⟩ :=
  ⟨l, hs, es, hl, ht, hn, he ▸ hH⟩
theorem semO_of {Sh : Shape β} {c : Code} {n : Nat} {rs : List ResultVar} {args : List T} (hv : md f = .own) (hX : X f = none) (hok : Ok P f c n rs) (hlen : Nat.ble args.length n = true) (hf : args.all flat3 = true)
    (h : ∀ σ s, Sub (nums 0 args) s → Heap σ σ [] → codeQ P (run P md X) c (endOw P rs σ Sh r) ⟨s, σ⟩) : semO P md X Sh f args = some r := by
  refine semO_intro fun σ => ?_
  obtain ⟨fn, h1, h2, h3, h4, h5, h6⟩ := hok
  obtain ⟨x, fr, k1, k2⟩ := codeQ_sound (h σ _ (sub_enter args) (Heap.nil σ))
  have hx : (x = .normal ∨ x = .ret) ∧ ∃ l hs es, resL P fr rs = some l ∧ tupOf l = Sh.tree hs r ∧ hs.length = Sh.n ∧ Heap σ fr.σ (Sh.en hs r ++ es) := by
    cases x with
    | normal => exact ⟨.inl rfl, k2⟩
    | ret => exact ⟨.inr rfl, k2⟩
    | exit i => exact k2.elim
  obtain ⟨hx, l, hs, es, m1, m2, m3, m4⟩ := hx
  obtain ⟨F, q1, q2, q3⟩ := m4.ex
  obtain ⟨F1, F2, rfl, q4, q5⟩ := q1.split
  obtain ⟨k, hk⟩ := (Sh.ok hs r m3).sound q4
  have hown : own fr.σ k (tupOf l) = some (Sh.eb r, F1) := by
    rw [m2]
    simp only [frzL] at hk
    obtain ⟨p, h7, h8⟩ := Option.bind_eq_some_iff.1 hk
    simp at h8
    obtain ⟨h8, h9⟩ := h8
    exact hold_own _ _ _ _ (by rw [h7, ← h8, ← h9])
  have hrun := run_own (P := P) (vm := md) (X := X) (σ := σ) hv hX h1 h2 h3 h4 (by rw [h5]; exact Nat.le_of_ble_eq_true hlen) (frzL_flat hf) (by rw [mark_nil]; exact k1) hx (by rw [resA, h6, m1]; rfl) hown (fun b hb => (q3 b (by simp [hb])).1) (fun i hi => by rw [mark_nil]; exact m4.grow.old i hi)
  refine ⟨hs, σ.keep fr.σ F1, m3, by rw [hrun, m2], Grow.keep m4.grow.nx F1, F1, q4.same fun b hb => ?_, (List.nodup_append.1 q2).1, fun b hb => ?_⟩
  · have := (q3 b (by simp [hb])).1
    simp only [St.keep]; rw [if_neg (by omega), if_pos hb]
  · exact q3 b (by simp [hb])
theorem q_callO (hm : m.chg = true) {Sh : Shape β} {z : Bool} {fo : Operand} {as : Array Operand} {tys : Array TypeId} {ts vs : List T} (hw : want ops L g = some true) (hS : Sub L s) (hf : gE (get L) fo = some (.fn f [] [])) (ha : gEs (get L) as.toList = some ts)
    (hv : md f = .own) (hH : Heap σ0 σ (ents ++ es)) (hh : HL z ts vs ents) (hr : semO P md X Sh f vs = some r)
    (k : ∀ hs σ' s', hs.length = Sh.n → Heap σ0 σ' (Sh.en hs r ++ (ents ++ es)) → Sub (putL L d (Sh.tree hs r)) s' → opsX P (run P md X) ops (nxM m) l K ⟨s', σ'⟩) : opsX P (run P md X) ops m (⟨d, .call ⟨.value fo, as, tys⟩, ty, ps, af, g⟩ :: l) K ⟨s, σ⟩ := by
  obtain ⟨D, S, h1, h2, h3, h4⟩ := hh.frz hH
  obtain ⟨hs, σ1, m1, m2, m3⟩ := semO_spec hr (σ.mark S)
  have hrun := run_frz_own hv h1 m2
  have hH' : Heap σ0 ⟨σ1.next, fun i => if i < σ.next then σ.blk i else σ1.blk i⟩ (Sh.en hs r ++ (ents ++ es)) := by
    refine Heap.step (es1 := []) (es2 := Sh.en hs r) (es := ents ++ es) hH m3.grow.nx fun S' hS' _ _ => ?_
    obtain ⟨F, q1, q2, q3⟩ := m3.ex
    refine ⟨F, q1.same fun b hb => ?_, q2, fun b hb => .inr (q3 b hb), fun b hb _ => ?_⟩
    · have := (q3 b hb).1
      simp only [mark_next] at this
      simp only; rw [if_neg (by omega)]
    · simp only; rw [if_pos hb]
  refine x_callC (f := f) (args := [] ++ ts ++ []) (r := Sh.tree hs r) (σ' := ⟨σ1.next, fun i => if i < σ.next then σ.blk i else σ1.blk i⟩) hm rfl (want_sound hS hw) (fun kk σ' => by rw [a_call, gEs_sound hS ha, Option.bind_some, gE_sound hS hf]; rfl) (by simpa using hrun) m3.grow.nx (fun x hx => by simp only; rw [if_pos hx]) ?_
  rw [put_eq]
  exact k _ _ _ m1 hH' (sub_putL hS d _ σ)
end
end Go.Am
end
