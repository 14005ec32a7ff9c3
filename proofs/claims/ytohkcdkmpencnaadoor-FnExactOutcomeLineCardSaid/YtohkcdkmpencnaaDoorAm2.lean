/- The abstract machine. -/
import Derived.Test.YtohkcdkmpencnaaDoorAm1
import Derived.WalkKit
import Derived.ProofKit
import Derived.OpenShut
import Derived.ShutString
import Derived.ChangeOld
import Derived.SizedLaws
section
set_option linter.unusedVariables false
set_option linter.unusedSimpArgs false
namespace Go.Am
open Classical
section
variable {P : Program}
theorem evals_congr {s s' : Nat → T} : ∀ {xs : List Operand}, (∀ x ∈ xs, evalO s x = evalO s' x) → evals s xs = evals s' xs
  | [], _ => rfl
  | x :: xs, h => by
    simp only [evals]
    rw [h x (by simp), evals_congr fun y hy => h y (by simp [hy])]
theorem evalPs_congr {s s' : Nat → T} : ∀ {xs : List (Nat × Operand)}, (∀ x ∈ xs, evalO s x.2 = evalO s' x.2) → evalPs s xs = evalPs s' xs
  | [], _ => rfl
  | (i, x) :: xs, h => by
    simp only [evalPs]
    rw [h (i, x) (by simp), evalPs_congr fun y hy => h y (by simp [hy])]
theorem aOp_congr {k : Option Nat} {s s' : Nat → T} {σ : St} {o : Oper} (h : ∀ x ∈ o.op.operands, evalO s x = evalO s' x) : aOp P k ⟨s, σ⟩ o = aOp P k ⟨s', σ⟩ o := by
  obtain ⟨dst, op, type, pos, after, guard⟩ := o
  cases op <;> simp only [Op.operands] at h <;> simp only [aOp]
  case build t ps => rw [evalPs_congr (s := s) (s' := s') fun x hx => h x.2 (by simp only [List.mem_toArray, List.mem_map]; exact ⟨x, hx, rfl⟩)]
  case buildSlice t n ps => rw [evalPs_congr (s := s) (s' := s') fun x hx => h x.2 (by simp only [List.mem_toArray, List.mem_map]; exact ⟨x, hx, rfl⟩)]
  case makeFunc fn first captured =>
    cases fn <;> simp only
    rw [evals_congr (s := s) (s' := s') (xs := first.toList) fun x hx => h x (by simp at hx; simp [hx]), evals_congr (s := s) (s' := s') (xs := captured.toList) fun x hx => h x (by simp at hx; simp [hx])]
  case call c =>
    rw [evals_congr (s := s) (s' := s') (xs := c.args.toList) fun x hx => h x (by simp at hx; simp [Call.operands, hx])]
    cases hc : c.callee with
    | value f => have hf : evalO s f = evalO s' f := h f (by simp [Call.operands, hc]); simp only [hf]
    | invoke r m => rfl
    | builtin b => cases b <;> rfl
  case slice t x lo hi mx => cases lo <;> cases hi <;> cases mx <;> simp_all [evalOpt]
  all_goals (first | rfl | (simp_all; done))
theorem wantedA_congr {ops : Array Oper} {o : Oper} {s s' : Nat → T} (h : ∀ g w d, o.guard = some (g, w) → (ops[g]?).bind (·.dst) = some d → s d = s' d) : wantedA ops o s = wantedA ops o s' := by
  unfold wantedA
  cases hg : o.guard with
  | none => rfl
  | some p =>
    obtain ⟨g, w⟩ := p
    simp only
    cases hd : (ops[g]?).bind (·.dst) with
    | none => rfl
    | some d => simp only [h g w d hg hd]
def stepV (P : Program) (O : Oracle) (ops : Array Oper) (b : Nat) (i : Nat) (s : Nat → T) (σ : St) : Option (T × St) :=
  match ops[i]? with
  | none => none
  | some o =>
    if wantedA ops o s then
      (aOp P (some (b + i)) ⟨s, σ⟩ o).bind fun
        | .val v σ => some (v, σ)
        | .skip σ => some (.tup [], σ)
        | .call f args => O f args σ
    else some (.tup [], σ)
theorem op1_step {O : Oracle} {ops : Array Oper} {b i : Nat} {o : Oper} {s : Nat → T} {σ : St} (h : ops[i]? = some o) : op1 P O ops ((some b).map (· + i)) o ⟨s, σ⟩ = (stepV P O ops b i s σ).map fun p => (Fr.put ⟨s, σ⟩ o.dst p.1 p.2) := by
  unfold op1 stepV
  rw [h]
  simp only [Option.map_some]
  split
  · cases aOp P (some (b + i)) ⟨s, σ⟩ o with
    | none => rfl
    | some r =>
      simp only [Option.bind_some]
      cases r with
      | val v σ' => rfl
      | skip σ' => rfl
      | call f args =>
        simp only
        cases O f args σ <;> rfl
  · rfl
theorem stepV_congr {O : Oracle} {ops : Array Oper} {b i : Nat} {o : Oper} {s s' : Nat → T} {σ : St} (h : ops[i]? = some o) (hs : ∀ d ∈ o.looksAt ops, s d = s' d) : stepV P O ops b i s σ = stepV P O ops b i s' σ := by
  unfold stepV
  rw [h]
  simp only
  have h1 : wantedA ops o s = wantedA ops o s' := wantedA_congr fun g w d hg hd => hs d (by simp [Oper.looksAt, hg, hd])
  have h2 : aOp P (some (b + i)) ⟨s, σ⟩ o = aOp P (some (b + i)) ⟨s', σ⟩ o := aOp_congr fun x hx => by
    cases x with
    | tmp t => simp only [evalO]; rw [hs t (by simp only [Oper.looksAt, List.mem_append]; exact .inl (List.mem_filterMap.2 ⟨.tmp t, by simpa using hx, rfl⟩))]
    | _ => rfl
  rw [h1, h2]
def ancM (ops : Array Oper) : List Nat :=
  ops.toList.foldl (fun acc o => acc ++ [o.after.toList.foldl (fun m e => if Region.binds .any e then (m ||| 2 ^ e.on) ||| acc.getD e.on 0 else m) 0]) []
def bitOf (m j : Nat) : Bool := Nat.beq (Nat.land (Nat.shiftRight m j) 1) 1
theorem bitOf_eq (m j : Nat) : bitOf m j = m.testBit j := by
  have e : Nat.land (Nat.shiftRight m j) 1 = (m >>> j) &&& 1 := rfl
  rw [bitOf, e, Nat.testBit, Nat.and_comm, Bool.eq_iff_iff]
  have h : 1 &&& (m >>> j) = (m >>> j) % 2 := by rw [Nat.and_comm, Nat.and_one_is_mod]
  rw [h]
  have := Nat.mod_two_eq_zero_or_one (m >>> j)
  constructor
  · intro h; have := Nat.eq_of_beq_eq_true h; simp [this]
  · intro h; rcases this with h1 | h1
    · rw [h1] at h; simp at h
    · rw [h1]; rfl
def ancs (ops : Array Oper) : List (List Nat) := (ancM ops).map fun m => (List.range ops.size).filter fun j => bitOf m j
theorem mem_ancs {ops : Array Oper} {i j : Nat} : j ∈ (ancs ops).getD i [] ↔ j < ops.size ∧ bitOf ((ancM ops).getD i 0) j = true := by
  unfold ancs
  rw [List.getD_eq_getElem?_getD, List.getD_eq_getElem?_getD, List.getElem?_map]
  cases (ancM ops)[i]? with
  | none => simp [bitOf_eq]
  | some m => simp
def flagsOk (A : List (List Nat)) (ch : List Nat) (i : Nat) (c : Nat → Bool) : Prop :=
  (∀ j ∈ ch, j ∈ A.getD i [] → c j = true) ∧ (∀ j ∈ ch, i ∈ A.getD j [] → c j = false) ∧ c i = false ∧ ∀ j ∈ ch, ∀ k ∈ ch, k ∈ A.getD j [] → c j = true → c k = true
def drawOk (ops : Array Oper) : Bool :=
  let A := ancM ops
  (List.range ops.size).all fun i =>
    match ops[i]? with
    | none => false
    | some o =>
      (o.after.all fun e => !Region.binds .any e || decide (e.on < i)) && Nat.blt (A.getD i 0) (2 ^ i) &&
      (List.range ops.size).all fun j =>
        match ops[j]? with
        | none => false
        | some o' =>
          match o'.dst with
          | none => true
          | some d => i == j || ((o.dst != some d) && (!(o.looksAt ops).contains d || bitOf (A.getD i 0) j || bitOf (A.getD j 0) i))
def Shut (ops : Array Oper) (L : Nat → Bool) : Prop := ∀ i o, ops[i]? = some o → L i = true → ∀ e ∈ o.after, Region.binds .any e = true → L e.on = true
theorem ancM_inner {L : Nat → Bool} {acc : List Nat} (hacc : ∀ i, L i = true → ∀ j, (acc.getD i 0).testBit j = true → L j = true) : ∀ (es : List Edge) (m : Nat), (∀ j, m.testBit j = true → L j = true) → (∀ e ∈ es, Region.binds .any e = true → L e.on = true) →
    ∀ j, (es.foldl (fun m e => if Region.binds .any e then (m ||| 2 ^ e.on) ||| acc.getD e.on 0 else m) m).testBit j = true → L j = true
  | [], m, hl, _, j, hj => hl j hj
  | e :: es, m, hl, he, j, hj => by
    simp only [List.foldl_cons] at hj
    refine ancM_inner hacc es _ ?_ (fun e' h => he e' (by simp [h])) j hj
    intro j hj
    split at hj
    · rename_i hb
      have h1 := he e (by simp) hb
      rw [Nat.testBit_or, Nat.testBit_or, Bool.or_eq_true, Bool.or_eq_true, Nat.testBit_two_pow] at hj
      rcases hj with (hj | hj) | hj
      · exact hl j hj
      · have : e.on = j := by simpa using hj
        subst this; exact h1
      · exact hacc _ h1 j hj
    · exact hl j hj
theorem ancM_fold {ops : Array Oper} {L : Nat → Bool} (hL : Shut ops L) : ∀ (l pre : List Oper) (acc : List Nat), ops.toList = pre ++ l → acc.length = pre.length →
    (∀ i o, pre[i]? = some o → (∀ e ∈ o.after, Region.binds .any e = true → L e.on = true) → ∀ j, (acc.getD i 0).testBit j = true → L j = true) →
    ∀ i o, ops[i]? = some o → (∀ e ∈ o.after, Region.binds .any e = true → L e.on = true) →
      ∀ j, ((l.foldl (fun acc o => acc ++ [o.after.toList.foldl (fun m e => if Region.binds .any e then (m ||| 2 ^ e.on) ||| acc.getD e.on 0 else m) 0]) acc).getD i 0).testBit j = true → L j = true
  | [], pre, acc, he, hn, h, i, o, ho, hh, j, hj => by
    refine h i o ?_ hh j hj
    rw [List.append_nil] at he
    rw [← he]; simpa using ho
  | x :: l, pre, acc, he, hn, h, i, o, ho, hh, j, hj => by
    simp only [List.foldl_cons] at hj
    refine ancM_fold hL l (pre ++ [x]) _ (by simp [he]) (by simp [hn]) ?_ i o ho hh j hj
    intro i o hi hh j hj
    have hacc : ∀ i, L i = true → ∀ j, (acc.getD i 0).testBit j = true → L j = true := fun i hi j hj => by
      cases hp : pre[i]? with
      | none =>
        have : acc.length ≤ i := by rw [hn]; exact List.getElem?_eq_none_iff.1 hp
        rw [List.getD_eq_getElem?_getD, List.getElem?_eq_none this] at hj
        simp at hj
      | some o =>
        refine h i o hp (hL i o ?_ hi) j hj
        have : ops.toList[i]? = some o := by rw [he, List.getElem?_append_left (by exact (List.getElem?_eq_some_iff.1 hp).1)]; exact hp
        simpa using this
    by_cases hlt : i < pre.length
    · rw [List.getElem?_append_left hlt] at hi
      rw [List.getD_eq_getElem?_getD, List.getElem?_append_left (by omega), ← List.getD_eq_getElem?_getD] at hj
      exact h i o hi hh j hj
    · have : i = pre.length := by
        have := (List.getElem?_eq_some_iff.1 hi).1
        simp at this; omega
      subst this
      simp at hi; subst hi
      rw [← hn, List.getD_eq_getElem?_getD] at hj
      simp only [List.getElem?_concat_length, Option.getD_some] at hj
      exact ancM_inner hacc _ 0 (by simp) (fun e he => hh e (by simpa using he)) j hj
theorem ancs_shut {ops : Array Oper} {L : Nat → Bool} (hL : Shut ops L) {i : Nat} {o : Oper} (ho : ops[i]? = some o) (h : ∀ e ∈ o.after, Region.binds .any e = true → L e.on = true) : ∀ j ∈ (ancs ops).getD i [], L j = true := fun j hj =>
  ancM_fold hL ops.toList [] [] rfl rfl (by simp) i o ho h j (by have := (mem_ancs.1 hj).2; rwa [bitOf_eq] at this)
def sl (ops : Array Oper) (vals : Nat → T) (s : Nat → T) (L : Nat → Bool) (t : Nat) : T :=
  match (List.range ops.size).find? (fun j => L j && decide ((ops[j]?).bind (·.dst) = some t)) with
  | some j => vals j
  | none => s t
structure DrawFacts (ops : Array Oper) : Prop where
  back : ∀ (i : Nat) (o : Oper), ops[i]? = some o → ∀ e ∈ o.after, Region.binds .any e = true → e.on < i
  ancB : ∀ i, i < ops.size → ∀ j ∈ (ancs ops).getD i [], j < i
  uniq : ∀ (i j : Nat) (o o' : Oper) (d : Nat), ops[i]? = some o → ops[j]? = some o' → o.dst = some d → o'.dst = some d → i = j
  look : ∀ (i j : Nat) (o o' : Oper) (d : Nat), ops[i]? = some o → ops[j]? = some o' → o'.dst = some d → d ∈ o.looksAt ops → i ≠ j → j ∈ (ancs ops).getD i [] ∨ i ∈ (ancs ops).getD j []
theorem drawOk_facts {ops : Array Oper} (h : drawOk ops = true) : DrawFacts ops := by
  unfold drawOk at h
  simp only [List.all_eq_true, List.mem_range] at h
  have h1 : ∀ (i : Nat) (o : Oper), ops[i]? = some o → (∀ e ∈ o.after, Region.binds .any e = true → e.on < i) ∧ (∀ j ∈ (ancs ops).getD i [], j < i) ∧ ∀ (j : Nat) (o' : Oper) (d : Nat), ops[j]? = some o' → o'.dst = some d → i = j ∨ (o.dst ≠ some d ∧ (d ∈ o.looksAt ops → bitOf ((ancM ops).getD i 0) j = true ∨ bitOf ((ancM ops).getD j 0) i = true)) := fun i o hi => by
    have hlt := (Array.getElem?_eq_some_iff.1 hi).1
    have := h i hlt
    simp only [hi, Bool.and_eq_true, Array.all_eq_true_iff_forall_mem, decide_eq_true_eq, List.all_eq_true, List.mem_range] at this
    refine ⟨fun e he hb => by have h0 := this.1.1 e he; rw [hb] at h0; simpa using h0, fun j hj => ?_, fun j o' d hj hd => ?_⟩
    · have h3 := this.1.2
      have h3 : (ancM ops).getD i 0 < 2 ^ i := Nat.le_of_ble_eq_true h3
      have h4 := (mem_ancs.1 hj).2
      rw [bitOf_eq] at h4
      refine Nat.lt_of_not_le fun hle => ?_
      rw [Nat.testBit_lt_two_pow (Nat.lt_of_lt_of_le h3 (Nat.pow_le_pow_right (by omega) hle))] at h4; cases h4
    have h2 := this.2 j (Array.getElem?_eq_some_iff.1 hj).1
    simp only [hj, hd, Bool.or_eq_true, beq_iff_eq, Bool.and_eq_true, bne_iff_ne, ne_eq, Bool.not_eq_true', List.contains_eq_mem, decide_eq_true_eq, decide_eq_false_iff_not] at h2
    rcases h2 with h2 | ⟨h2, h3⟩
    · exact .inl h2
    · refine .inr ⟨h2, fun hm => ?_⟩
      rcases h3 with (h3 | h3) | h3
      · exact absurd hm h3
      · exact .inl h3
      · exact .inr h3
  refine ⟨fun i o hi => (h1 i o hi).1, fun i hi => ?_, fun i j o o' d hi hj hd hd' => ?_, fun i j o o' d hi hj hd hm hne => ?_⟩
  · exact (h1 i ops[i] (by simp [hi])).2.1
  · rcases (h1 i o hi).2.2 j o' d hj hd' with h | ⟨h, _⟩
    · exact h
    · exact absurd hd h
  · rcases (h1 i o hi).2.2 j o' d hj hd with h | ⟨_, h⟩
    · exact absurd h hne
    · rcases h hm with h | h
      · exact .inl (mem_ancs.2 ⟨(Array.getElem?_eq_some_iff.1 hj).1, h⟩)
      · exact .inr (mem_ancs.2 ⟨(Array.getElem?_eq_some_iff.1 hi).1, h⟩)
theorem sl_some {ops : Array Oper} (hf : DrawFacts ops) {vals s L} {j : Nat} {o : Oper} {t : Nat} (hj : ops[j]? = some o) (hd : o.dst = some t) (hL : L j = true) : sl ops vals s L t = vals j := by
  unfold sl
  split
  · rename_i k hk
    have h1 := List.find?_some hk
    simp only [Bool.and_eq_true, decide_eq_true_eq] at h1
    cases hk2 : ops[k]? with
    | none => rw [hk2] at h1; simp at h1
    | some o' =>
      rw [hk2] at h1
      rw [hf.uniq k j o' o t hk2 hj (by simpa using h1.2) hd]
  · rename_i hk
    have h1 := List.find?_eq_none.1 hk j (List.mem_range.2 (Array.getElem?_eq_some_iff.1 hj).1)
    simp [hL, hj, hd] at h1
theorem sl_none {ops : Array Oper} {vals s L} {t : Nat} (h : ∀ (j : Nat) (o : Oper), ops[j]? = some o → o.dst = some t → L j = false) : sl ops vals s L t = s t := by
  unfold sl
  split
  · rename_i k hk
    have h1 := List.find?_some hk
    simp only [Bool.and_eq_true, decide_eq_true_eq] at h1
    cases hk2 : ops[k]? with
    | none => rw [hk2] at h1; simp at h1
    | some o' =>
      rw [hk2] at h1
      have := h k o' hk2 (by simpa using h1.2)
      rw [this] at h1; simp at h1
  · rfl
theorem sl_put {ops : Array Oper} (hf : DrawFacts ops) {vals s L} {i : Nat} {o : Oper} (hi : ops[i]? = some o) (hL : L i = false) (σ σ' : St) : Fr.put ⟨sl ops vals s L, σ⟩ o.dst (vals i) σ' = ⟨sl ops vals s (fun j => L j || decide (j = i)), σ'⟩ := by
  cases hd : o.dst with
  | none =>
    simp only [Fr.put, Fr.mk.injEq, and_true]
    funext t
    unfold sl
    have : (fun j => L j && decide ((ops[j]?).bind (·.dst) = some t)) = (fun j => (L j || decide (j = i)) && decide ((ops[j]?).bind (·.dst) = some t)) := by
      funext j
      by_cases hj : j = i
      · subst hj; simp [hi, hd]
      · simp [hj]
    rw [this]
  | some d =>
    simp only [Fr.put, Fr.mk.injEq, and_true]
    funext t
    by_cases ht : t = d
    · subst ht
      rw [if_pos rfl, sl_some hf hi hd (by simp)]
    · rw [if_neg ht]
      unfold sl
      have : (fun j => L j && decide ((ops[j]?).bind (·.dst) = some t)) = (fun j => (L j || decide (j = i)) && decide ((ops[j]?).bind (·.dst) = some t)) := by
        funext j
        by_cases hj : j = i
        · subst hj; simp [hi, hd, Ne.symm ht]
        · simp [hj]
      rw [this]
theorem countP_lt {α : Type} {p q : α → Bool} : ∀ {l : List α}, (∀ x ∈ l, q x = true → p x = true) → (∃ x ∈ l, p x = true ∧ q x = false) → l.countP q < l.countP p
  | [], _, ⟨x, hx, _⟩ => by simp at hx
  | a :: l, h, ⟨x, hx, hp, hq⟩ => by
    have hle : l.countP q ≤ l.countP p := List.countP_mono_left fun y hy hyq => h y (by simp [hy]) hyq
    simp only [List.countP_cons]
    rcases List.mem_cons.1 hx with rfl | hx
    · rw [hp, hq]; simp; omega
    · have := countP_lt (l := l) (fun y hy => h y (by simp [hy])) ⟨x, hx, hp, hq⟩
      have h1 := h a (by simp)
      cases hqa : q a <;> cases hpa : p a <;> simp_all <;> omega
section
variable {O : Oracle} {ops : Array Oper} {ch : List Nat} {vals : Nat → T} {Sg : (Nat → Bool) → St} {s : Nat → T} {b : Nat}
theorem draw_go (hf : DrawFacts ops)
    (hdyn : ∀ i, i < ops.size → ∀ c, flagsOk (ancs ops) ch i c → stepV P O ops b i (sl ops vals s (fun j => decide (j < i))) (Sg c) = some (vals i, Sg (fun j => c j || decide (j = i))))
    (hSg : ∀ c c', (∀ j ∈ ch, c j = c' j) → Sg c = Sg c') (hch : ∀ j ∈ ch, j < ops.size) :
    ∀ (fuel t : Nat) (listed : Array Bool), listed.size = ops.size → Shut ops (fun j => listed.getD j false) → (List.range ops.size).countP (fun j => !listed.getD j true) ≤ fuel →
      idxL P O ops (some b) (Region.linearise.go .any ops fuel t listed []) ⟨sl ops vals s (fun j => listed.getD j false), Sg (fun j => listed.getD j false)⟩ = some ⟨sl ops vals s (fun j => decide (j < ops.size)), Sg (fun j => decide (j < ops.size))⟩ := by
  have hall : ∀ listed : Array Bool, listed.size = ops.size → (∀ j, j < ops.size → listed.getD j true = true) → (⟨sl ops vals s (fun j => listed.getD j false), Sg (fun j => listed.getD j false)⟩ : Fr) = ⟨sl ops vals s (fun j => decide (j < ops.size)), Sg (fun j => decide (j < ops.size))⟩ := fun listed hn h => by
    have : (fun j => listed.getD j false) = (fun j => decide (j < ops.size)) := by
      funext j
      by_cases hj : j < ops.size
      · have := h j hj
        simp [hn, hj] at this ⊢
        exact this
      · simp [hn, hj]
    rw [this]
  intro fuel
  induction fuel with
  | zero =>
    intro t listed hn hs hc
    simp only [Region.linearise.go, List.reverse_nil, idxL]
    rw [hall listed hn]
    intro j hj
    have h0 : (List.range ops.size).countP (fun j => !listed.getD j true) = 0 := by omega
    have := List.countP_eq_zero.1 h0 j (List.mem_range.2 hj)
    simpa using this
  | succ fuel ih =>
    intro t listed hn hs hc
    simp only [Region.linearise.go]
    change idxL P O ops (some b) (match (Region.ready .any ops listed)[t % (Region.ready .any ops listed).length]? with
      | some i => Region.linearise.go .any ops fuel (t / (Region.ready .any ops listed).length) (listed.setIfInBounds i true) [i]
      | none => [].reverse) _ = _
    cases hi : (Region.ready .any ops listed)[t % (Region.ready .any ops listed).length]? with
    | none =>
      have hnil : Region.ready .any ops listed = [] := by
        cases hr : Region.ready .any ops listed with
        | nil => rfl
        | cons x xs =>
          rw [hr] at hi
          have hlt : t % (x :: xs).length < (x :: xs).length := Nat.mod_lt _ (by simp)
          simp at hi
          simp at hlt
          omega
      simp only [List.reverse_nil, idxL]
      rw [hall listed hn]
      intro j
      induction j using Nat.strongRecOn with
      | ind j ihj =>
        intro hj
        cases hl : listed.getD j true with
        | true => rfl
        | false =>
          have : j ∈ Region.ready .any ops listed := mem_ready.2 ⟨hl, ops[j], by simp [hj], fun e he hb => by
            have hlt := hf.back j ops[j] (by simp [hj]) e he hb
            have := ihj e.on hlt (by omega)
            have hlt2 : e.on < listed.size := by omega
            simp [hlt2] at this ⊢
            exact this⟩
          rw [hnil] at this; simp at this
    | some i =>
      have hmem := mem_ready.1 (List.mem_of_getElem? hi)
      obtain ⟨hun, o, ho, hpre⟩ := hmem
      have hilt : i < ops.size := (Array.getElem?_eq_some_iff.1 ho).1
      have hun' : listed.getD i false = false := by
        have : i < listed.size := by omega
        simp [this] at hun ⊢
        exact hun
      simp only []
      rw [linearise_go_acc, List.reverse_singleton, List.singleton_append]
      simp only [idxL, ho]
      have hanc := ancs_shut hs ho (fun e he hb => hpre e he hb)
      have hnot : ∀ j, i ∈ (ancs ops).getD j [] → listed.getD j false = false := fun j hj => by
        cases hl : listed.getD j false with
        | false => rfl
        | true =>
          have hjlt : j < ops.size := by
            cases Nat.lt_or_ge j ops.size with
            | inl h => exact h
            | inr h => simp [Array.getElem?_eq_none (show listed.size ≤ j by omega)] at hl
          have : listed.getD i false = true := ancs_shut hs (i := j) (o := ops[j]) (by simp [hjlt]) (hs j ops[j] (by simp [hjlt]) hl) i hj
          rw [hun'] at this; cases this
      have hslots : ∀ d ∈ o.looksAt ops, sl ops vals s (fun j => listed.getD j false) d = sl ops vals s (fun j => decide (j < i)) d := fun d hd => by
        by_cases hex : ∃ (j : Nat) (o' : Oper), ops[j]? = some o' ∧ o'.dst = some d ∧ j ≠ i
        · obtain ⟨j, o', hj, hdj, hne⟩ := hex
          rcases hf.look i j o o' d ho hj hdj hd (Ne.symm hne) with ha | ha
          · rw [sl_some hf hj hdj (hanc j ha), sl_some hf hj hdj (by simpa using hf.ancB i hilt j ha)]
          · have hji := hf.ancB j (Array.getElem?_eq_some_iff.1 hj).1 i ha
            have e1 := hnot j ha
            rw [sl_none (fun k o'' hk hdk => by rw [hf.uniq k j o'' o' d hk hj hdk hdj]; exact e1), sl_none (fun k o'' hk hdk => by rw [hf.uniq k j o'' o' d hk hj hdk hdj]; simp; omega)]
        · have hno : ∀ (k : Nat) (o'' : Oper), ops[k]? = some o'' → o''.dst = some d → k = i := fun k o'' hk hdk => Classical.byContradiction fun hne => hex ⟨k, o'', hk, hdk, hne⟩
          rw [sl_none (fun k o'' hk hdk => by rw [hno k o'' hk hdk]; exact hun'), sl_none (fun k o'' hk hdk => by rw [hno k o'' hk hdk]; simp)]
      have hstep := hdyn i hilt (fun j => listed.getD j false) ⟨fun j _ hj => hanc j hj, fun j _ hj => hnot j hj, hun', fun j hj k _ hk hl => ancs_shut hs (i := j) (o := ops[j]'(hch j hj)) (by simp [hch j hj]) (hs j _ (by simp [hch j hj]) hl) k hk⟩
      rw [op1_step ho, stepV_congr ho hslots, hstep]
      simp only [Option.map_some, Option.bind_some]
      rw [sl_put hf ho hun']
      have hset : (fun j => listed.getD j false || decide (j = i)) = (fun j => (listed.setIfInBounds i true).getD j false) := by
        funext j
        by_cases hj : j = i
        · subst hj
          have : j < listed.size := by omega
          simp [this]
        · rw [getD_set_ne false (Ne.symm hj)]; simp [hj]
      rw [hset]
      refine ih _ _ (by simp [hn]) (fun j o' hj hl e he hb => ?_) ?_
      · by_cases hji : j = i
        · subst hji
          rw [ho] at hj; injection hj with hj; subst hj
          exact getD_set_true (hpre e he hb)
        · have hl : (listed.setIfInBounds i true).getD j false = true := hl
          rw [getD_set_ne false (Ne.symm hji)] at hl
          exact getD_set_true (hs j o' hj hl e he hb)
      · refine Nat.le_of_lt_succ (Nat.lt_of_lt_of_le (countP_lt (fun x _ hx => ?_) ⟨i, List.mem_range.2 hilt, by simpa using hun, ?_⟩) hc)
        · by_cases hxi : x = i
          · subst hxi
            have : x < listed.size := by omega
            simp [this] at hx
          · rw [getD_set_ne true (Ne.symm hxi)] at hx; exact hx
        · have : i < listed.size := by omega
          simp [this]
theorem draw_main (hst : drawOk ops = true)
    (hdyn : ∀ i, i < ops.size → ∀ c, flagsOk (ancs ops) ch i c → stepV P O ops b i (sl ops vals s (fun j => decide (j < i))) (Sg c) = some (vals i, Sg (fun j => c j || decide (j = i))))
    (hSg : ∀ c c', (∀ j ∈ ch, c j = c' j) → Sg c = Sg c') (hch : ∀ j ∈ ch, j < ops.size) (t : Nat) :
    idxL P O ops (some b) (Region.linearise .any ops t) ⟨s, Sg (fun _ => false)⟩ = some ⟨sl ops vals s (fun j => decide (j < ops.size)), Sg (fun j => decide (j < ops.size))⟩ := by
  have hf := drawOk_facts hst
  have h0 : (fun j => (Array.replicate ops.size false).getD j false) = fun _ => false := by
    funext j
    by_cases hj : j < ops.size <;> simp [hj]
  have h1 : sl ops vals s (fun _ => false) = s := by funext t; exact sl_none fun _ _ _ _ => rfl
  have := draw_go (P := P) (O := O) (vals := vals) (s := s) (b := b) hf hdyn hSg hch ops.size t (Array.replicate ops.size false) (by simp) (fun i o hi hl => by have hl : (Array.replicate ops.size false).getD i false = true := hl; rw [congrFun h0 i] at hl; cases hl) (by
    refine Nat.le_trans (List.countP_le_length) (by simp))
  rw [h0, h1] at this
  exact this
theorem draw_drawL (hst : drawOk ops = true) {fr : Fr} (hs : fr.s = s) (h0 : Sg (fun _ => false) = fr.σ.bump ops.size)
    (hdyn : ∀ i, i < ops.size → ∀ c, flagsOk (ancs ops) ch i c → stepV P O ops fr.σ.next i (sl ops vals s (fun j => decide (j < i))) (Sg c) = some (vals i, Sg (fun j => c j || decide (j = i))))
    (hSg : ∀ c c', (∀ j ∈ ch, c j = c' j) → Sg c = Sg c') (hch : ∀ j ∈ ch, j < ops.size) :
    drawL P O ops fr = some ⟨sl ops vals s (fun j => decide (j < ops.size)), Sg (fun j => decide (j < ops.size))⟩ := by
  have h := draw_main (P := P) (O := O) (vals := vals) (s := s) hst hdyn hSg hch
  have hr : idxL P O ops (some fr.σ.next) (List.range ops.size) ⟨s, Sg (fun _ => false)⟩ = some ⟨sl ops vals s (fun j => decide (j < ops.size)), Sg (fun j => decide (j < ops.size))⟩ := by
    have hf := drawOk_facts hst
    have key : ∀ n k, k + n = ops.size → idxL P O ops (some fr.σ.next) (List.range' k n) ⟨sl ops vals s (fun j => decide (j < k)), Sg (fun j => decide (j < k))⟩ = some ⟨sl ops vals s (fun j => decide (j < ops.size)), Sg (fun j => decide (j < ops.size))⟩ := by
      intro n
      induction n with
      | zero => intro k hk; simp only [List.range'_zero, idxL]; rw [show k = ops.size by omega]
      | succ n ih =>
        intro k hk
        have hlt : k < ops.size := by omega
        have ho : ops[k]? = some ops[k] := by simp [hlt]
        have hshut : Shut ops (fun j => decide (j < k)) := fun i o hi hl e he hb => by
          have := hf.back i o hi e he hb
          have hl : decide (i < k) = true := hl
          simp at hl ⊢; omega
        have hstep := hdyn k hlt (fun j => decide (j < k)) ⟨fun j _ hj => by simpa using hf.ancB k hlt j hj, fun j hj hk' => by
          have := hf.ancB j (hch j hj) k hk'
          simp; omega, by simp, fun j hj k' _ hk' hl => by
          have := hf.ancB j (hch j hj) k' hk'
          simp at hl ⊢; omega⟩
        simp only [List.range'_succ, idxL, ho]
        rw [op1_step ho, hstep]
        simp only [Option.map_some, Option.bind_some]
        rw [sl_put hf ho (by simp)]
        have hset : (fun j => decide (j < k) || decide (j = k)) = (fun j => decide (j < k + 1)) := by
          funext j
          rw [Bool.eq_iff_iff]; simp; omega
        rw [hset]
        exact ih (k + 1) (by omega)
    have h1 : sl ops vals s (fun j => decide (j < 0)) = s := by funext t; exact sl_none fun _ _ _ _ => by simp
    have := key ops.size 0 (by omega)
    rw [h1] at this
    rw [List.range_eq_range']
    simpa using this
  unfold drawL
  rw [hs, ← h0]
  rw [if_pos (fun t => by rw [h t, hr]), hr]
end
noncomputable def pureI (P : Program) (O : Oracle) (ops : Array Oper) (b : Nat) : List Nat → Fr → Option Fr
  | [], fr => some fr
  | i :: l, fr => match ops[i]? with
    | none => none
    | some o => (stepV P O ops b i fr.s fr.σ).bind fun p => if p.2 = fr.σ then pureI P O ops b l (fr.put o.dst p.1 fr.σ) else none
theorem sl_vals {ops : Array Oper} {vals vals' s L} (h : ∀ j, L j = true → vals j = vals' j) : sl ops vals s L = sl ops vals' s L := by
  funext t
  unfold sl
  split
  · rename_i j hj
    have h1 := List.find?_some hj
    simp only [Bool.and_eq_true] at h1
    exact h j h1.1
  · rfl
theorem pureI_vals {O : Oracle} {ops : Array Oper} (hf : DrawFacts ops) {b : Nat} {s : Nat → T} {σ : St} {fr' : Fr} : ∀ n k vals, k + n = ops.size → (∀ i, i < k → stepV P O ops b i (sl ops vals s (fun j => decide (j < i))) σ = some (vals i, σ)) →
    pureI P O ops b (List.range' k n) ⟨sl ops vals s (fun j => decide (j < k)), σ⟩ = some fr' →
    ∃ vals, (∀ i, i < ops.size → stepV P O ops b i (sl ops vals s (fun j => decide (j < i))) σ = some (vals i, σ)) ∧ fr' = ⟨sl ops vals s (fun j => decide (j < ops.size)), σ⟩ := by
  intro n
  induction n with
  | zero =>
    intro k vals hk h1 h2
    simp only [List.range'_zero, pureI] at h2
    injection h2 with h2
    have : k = ops.size := by omega
    subst this
    exact ⟨vals, h1, h2.symm⟩
  | succ n ih =>
    intro k vals hk h1 h2
    have hlt : k < ops.size := by omega
    have ho : ops[k]? = some ops[k] := by simp [hlt]
    simp only [List.range'_succ, pureI, ho] at h2
    obtain ⟨⟨v, σ'⟩, h3, h4⟩ := Option.bind_eq_some_iff.1 h2
    simp only at h4
    split at h4
    · rename_i he
      subst he
      let vals' : Nat → T := fun j => if j = k then v else vals j
      have e1 : ∀ i, i ≤ k → sl ops vals' s (fun j => decide (j < i)) = sl ops vals s (fun j => decide (j < i)) := fun i hi => sl_vals fun j hj => by
        simp at hj
        simp only [vals']; rw [if_neg (by omega)]
      have e2 : (fun j => decide (j < k) || decide (j = k)) = (fun j => decide (j < k + 1)) := by
        funext j
        rw [Bool.eq_iff_iff]; simp; omega
      refine ih (k + 1) vals' (by omega) (fun i hi => ?_) ?_
      · rw [e1 i (by omega)]
        by_cases hik : i = k
        · subst hik; simp only [vals', if_pos]; exact h3
        · simp only [vals', if_neg hik]; exact h1 i (by omega)
      · have hp := sl_put (vals := vals') (s := s) hf ho (L := fun j => decide (j < k)) (by simp) σ' σ'
        rw [e1 k (Nat.le_refl _), e2] at hp
        rw [← hp]
        simpa [vals'] using h4
    · cases h4
theorem draw_pure {O : Oracle} {ops : Array Oper} (hst : drawOk ops = true) {fr fr' : Fr} (h : pureI P O ops fr.σ.next (List.range ops.size) ⟨fr.s, fr.σ.bump ops.size⟩ = some fr') : drawL P O ops fr = some fr' := by
  have hf := drawOk_facts hst
  obtain ⟨vals, h1, h2⟩ := pureI_vals (s := fr.s) hf ops.size 0 (fun _ => .tup []) (by omega) (fun i hi => absurd hi (by omega)) (by
    have h1 : sl ops (fun _ => .tup []) fr.s (fun j => decide (j < 0)) = fr.s := by funext t; exact sl_none fun _ _ _ _ => by simp
    rw [h1, ← List.range_eq_range']; exact h)
  subst h2
  exact draw_drawL (ch := []) (Sg := fun _ => fr.σ.bump ops.size) hst rfl rfl (fun i hi c _ => h1 i hi) (fun _ _ _ => rfl) (by simp)
end
end Go.Am
end
section
set_option linter.unusedVariables false
set_option linter.unusedSimpArgs false
namespace Go.Am
open Classical
section
variable (P : Program) (O : Oracle)
def resQ (K : Fr → Prop) (fr : Fr) (dst : Option Nat) : Option ARes → Prop
  | some (.val v σ) => K (fr.put dst v σ)
  | some (.skip σ) => K (fr.put dst (.tup []) σ)
  | some (.call f args) => ∃ r σ, O f args fr.σ = some (r, σ) ∧ K (fr.put dst r σ)
  | none => False
def opQ (ops : Array Oper) (k : Option Nat) (o : Oper) (K : Fr → Prop) (fr : Fr) : Prop :=
  bif wantedA ops o fr.s then resQ O K fr o.dst (aOp P k fr o) else K (fr.put o.dst (.tup []) fr.σ)
def opsQ (ops : Array Oper) : List Oper → (Fr → Prop) → Fr → Prop
  | [], K, fr => K fr
  | o :: l, K, fr => opQ P O ops none o (opsQ ops l K) fr
def resD (K : Fr → Prop) (fr : Fr) (dst : Option Nat) : Option ARes → Prop
  | some (.val v σ) => σ = fr.σ ∧ K (fr.put dst v fr.σ)
  | some (.skip σ) => σ = fr.σ ∧ K (fr.put dst (.tup []) fr.σ)
  | some (.call f args) => ∃ r, O f args fr.σ = some (r, fr.σ) ∧ K (fr.put dst r fr.σ)
  | none => False
def opD (ops : Array Oper) (k : Nat) (o : Oper) (K : Fr → Prop) (fr : Fr) : Prop :=
  bif wantedA ops o fr.s then resD O K fr o.dst (aOp P (some k) fr o) else K (fr.put o.dst (.tup []) fr.σ)
def opsD (ops : Array Oper) (b : Nat) : Nat → List Oper → (Fr → Prop) → Fr → Prop
  | _, [], K, fr => K fr
  | i, o :: l, K, fr => opD P O ops (b + i) o (opsD ops b (i + 1) l K) fr
def drawQ (ops : Array Oper) (K : Fr → Prop) (fr : Fr) : Prop := ∃ fr', drawL P O ops fr = some fr' ∧ K fr'
def regionQ (ops : Array Oper) (K : Fr → Prop) (fr : Fr) : Bool → Prop
  | false => opsQ P O ops ops.toList K fr
  | true => drawQ P O ops K fr
def seqQ (K : Fr → Prop) (Q : AExit → Fr → Prop) : AExit → Fr → Prop
  | .normal, fr => K fr
  | .exit i, fr => Q (.exit i) fr
  | .ret, fr => Q .ret fr
def blkQ (id : Nat) (Q : AExit → Fr → Prop) : AExit → Fr → Prop
  | .normal, fr => Q .normal fr
  | .exit i, fr => Q (if i = id then .normal else .exit i) fr
  | .ret, fr => Q .ret fr
def condQ (K1 K2 : Fr → Prop) (fr : Fr) : Option T → Prop
  | some (.bool b) => (b = true → K1 fr) ∧ (b = false → K2 fr)
  | _ => False
def loopQ (body : Fr → Option (AExit × Fr)) (Q : AExit → Fr → Prop) (fr : Fr) : Prop := ∃ x fr', loopL body fr = some (x, fr') ∧ Q x fr'
def codeQ : Code → (AExit → Fr → Prop) → Fr → Prop
  | .skip, Q, fr => Q .normal fr
  | .region _ ops draw, Q, fr => regionQ P O ops (Q .normal) fr draw
  | .seq a b, Q, fr => codeQ a (seqQ (codeQ b Q) Q) fr
  | .cond c a b, Q, fr => condQ (codeQ a Q) (codeQ b Q) fr (evalO fr.s c)
  | .block id c, Q, fr => codeQ c (blkQ id Q) fr
  | .loop c, Q, fr => loopQ (codeL P O c) Q fr
  | .exit id, Q, fr => Q (.exit id) fr
  | .ret, Q, fr => Q .ret fr
  | _, _, _ => False
end
section
variable {P : Program} {O : Oracle}
theorem opQ_sound {ops : Array Oper} {k : Option Nat} {o : Oper} {K : Fr → Prop} {fr : Fr} (h : opQ P O ops k o K fr) : ∃ fr', op1 P O ops k o fr = some fr' ∧ K fr' := by
  unfold opQ at h
  unfold op1
  cases hw : wantedA ops o fr.s with
  | false => rw [hw] at h; exact ⟨_, rfl, h⟩
  | true =>
    rw [hw] at h
    simp only [cond_true] at h
    simp only [if_true]
    unfold resQ at h
    split at h
    · rename_i v σ e; rw [e]; exact ⟨_, rfl, h⟩
    · rename_i σ e; rw [e]; exact ⟨_, rfl, h⟩
    · rename_i f args e
      obtain ⟨r, σ, h1, h2⟩ := h
      rw [e]; simp only [Option.bind_some, h1]; exact ⟨_, rfl, h2⟩
    · exact h.elim
theorem opsQ_sound {ops : Array Oper} {K : Fr → Prop} : ∀ {l : List Oper} {fr : Fr}, opsQ P O ops l K fr → ∃ fr', opsL P O ops l fr = some fr' ∧ K fr'
  | [], fr, h => ⟨fr, rfl, h⟩
  | o :: l, fr, h => by
    obtain ⟨fr1, h1, h2⟩ := opQ_sound h
    obtain ⟨fr2, h3, h4⟩ := opsQ_sound h2
    exact ⟨fr2, by simp only [opsL, h1, Option.bind_some]; exact h3, h4⟩
theorem opD_sound {ops : Array Oper} {b i : Nat} {o : Oper} (ho : ops[i]? = some o) {K : Fr → Prop} {fr : Fr} (h : opD P O ops (b + i) o K fr) : ∃ v, stepV P O ops b i fr.s fr.σ = some (v, fr.σ) ∧ K (fr.put o.dst v fr.σ) := by
  unfold opD at h
  cases hw : wantedA ops o fr.s with
  | false => rw [hw] at h; exact ⟨.tup [], by simp [stepV, ho, hw], h⟩
  | true =>
    rw [hw] at h
    simp only [cond_true] at h
    unfold resD at h
    split at h
    · rename_i v σ e; exact ⟨v, by simp [stepV, ho, hw, e, h.1], h.2⟩
    · rename_i σ e; exact ⟨.tup [], by simp [stepV, ho, hw, e, h.1], h.2⟩
    · rename_i f args e
      obtain ⟨r, h1, h2⟩ := h
      exact ⟨r, by simp [stepV, ho, hw, e, h1], h2⟩
    · exact h.elim
theorem opsD_sound {ops : Array Oper} {b : Nat} {K : Fr → Prop} : ∀ {l : List Oper} {i : Nat} {fr : Fr}, (∀ j, j < l.length → l[j]? = ops[i + j]?) → opsD P O ops b i l K fr → ∃ fr', pureI P O ops b (List.range' i l.length) fr = some fr' ∧ K fr'
  | [], i, fr, _, h => ⟨fr, rfl, h⟩
  | o :: l, i, fr, hl, h => by
    have h0 : ops[i]? = some o := by simpa using (hl 0 (by simp)).symm
    obtain ⟨v, h1, h2⟩ := opD_sound h0 h
    obtain ⟨fr2, h3, h4⟩ := opsD_sound (fun j hj => by have := hl (j + 1) (by simpa using hj); simpa [Nat.add_assoc, Nat.add_comm 1 j] using this) h2
    refine ⟨fr2, ?_, h4⟩
    simp only [List.length_cons, List.range'_succ, pureI, h0, h1, Option.bind_some, if_true]
    exact h3
theorem drawQ_pure {ops : Array Oper} (hst : drawOk ops = true) {K : Fr → Prop} {fr : Fr} (h : opsD P O ops fr.σ.next 0 ops.toList K ⟨fr.s, fr.σ.bump ops.size⟩) : drawQ P O ops K fr := by
  obtain ⟨fr', h1, h2⟩ := opsD_sound (by simp) h
  refine ⟨fr', draw_pure hst ?_, h2⟩
  rw [List.range_eq_range', ← Array.length_toList]
  exact h1
theorem codeQ_sound : ∀ {c : Code} {Q : AExit → Fr → Prop} {fr : Fr}, codeQ P O c Q fr → ∃ x fr', codeL P O c fr = some (x, fr') ∧ Q x fr' := by
  intro c
  induction c with
  | skip => intro Q fr h; exact ⟨_, _, rfl, h⟩
  | region id ops draw =>
    intro Q fr h
    cases draw with
    | false =>
      obtain ⟨fr', h1, h2⟩ := opsQ_sound h
      exact ⟨_, fr', by simp only [codeL, regionL, Bool.false_eq_true, if_false, h1]; rfl, h2⟩
    | true =>
      obtain ⟨fr', h1, h2⟩ := h
      exact ⟨_, fr', by simp only [codeL, regionL, if_true, h1]; rfl, h2⟩
  | seq a b iha ihb =>
    intro Q fr h
    obtain ⟨x, fr1, h1, h2⟩ := iha h
    cases x with
    | normal =>
      obtain ⟨x, fr2, h3, h4⟩ := ihb h2
      exact ⟨x, fr2, by simp only [codeL, h1, Option.bind_some]; exact h3, h4⟩
    | exit i => exact ⟨_, fr1, by simp only [codeL, h1, Option.bind_some], h2⟩
    | ret => exact ⟨_, fr1, by simp only [codeL, h1, Option.bind_some], h2⟩
  | cond c a b iha ihb =>
    intro Q fr h
    simp only [codeQ] at h
    unfold condQ at h
    split at h
    · rename_i v hv
      cases v with
      | true =>
        obtain ⟨x, fr1, h1, h2⟩ := iha (h.1 rfl)
        exact ⟨x, fr1, by simp only [codeL, hv, Option.bind_some]; exact h1, h2⟩
      | false =>
        obtain ⟨x, fr1, h1, h2⟩ := ihb (h.2 rfl)
        exact ⟨x, fr1, by simp only [codeL, hv, Option.bind_some]; exact h1, h2⟩
    · exact h.elim
  | block id c ih =>
    intro Q fr h
    obtain ⟨x, fr1, h1, h2⟩ := ih h
    refine ⟨x.blk id, fr1, by simp only [codeL, h1, Option.map_some], ?_⟩
    cases x <;> exact h2
  | loop c ih =>
    intro Q fr h
    obtain ⟨x, fr', h1, h2⟩ := h
    exact ⟨x, fr', h1, h2⟩
  | exit id => intro Q fr h; exact ⟨_, _, rfl, h⟩
  | ret => intro Q fr h; exact ⟨_, _, rfl, h⟩
  | _ => intro Q fr h; exact h.elim
end
end Go.Am
end
section
set_option linter.unusedVariables false
set_option linter.unusedSimpArgs false
namespace Go.Am
open Classical Go.RowKit
theorem frzL_length {f : T → Option (T × List Nat)} : ∀ {ts vs : List T} {S : List Nat}, frzL f ts = some (vs, S) → vs.length = ts.length
  | [], _, _, h => by simp [frzL] at h; simp [← h.1]
  | t :: ts, vs, S, h => by
    simp only [frzL] at h
    obtain ⟨p, h1, h2⟩ := Option.bind_eq_some_iff.1 h
    obtain ⟨q, h3, h4⟩ := Option.map_eq_some_iff.1 h2
    injection h4 with h4 h5; subst h4
    simp [frzL_length h3]
theorem frzL_idem {f g : T → Option (T × List Nat)} (hfg : ∀ t v S, f t = some (v, S) → g v = some (v, [])) : ∀ {ts vs : List T} {S : List Nat}, frzL f ts = some (vs, S) → frzL g vs = some (vs, [])
  | [], _, _, h => by simp [frzL] at h; obtain ⟨rfl, _⟩ := h; simp [frzL]
  | t :: ts, vs, S, h => by
    simp only [frzL] at h
    obtain ⟨⟨v0, S0⟩, h1, h2⟩ := Option.bind_eq_some_iff.1 h
    obtain ⟨⟨vs', S'⟩, h3, h4⟩ := Option.map_eq_some_iff.1 h2
    injection h4 with h4 h5; subst h4; subst h5
    simp only [frzL, hfg _ _ _ h1, Option.bind_some, frzL_idem hfg h3, Option.map_some]
    rfl
theorem frz_idem {σ σ' : St} : ∀ (d : Nat) (t v : T) (S : List Nat), frz σ d t = some (v, S) → frz σ' d v = some (v, [])
  | 0, t, v, S, h => by
    cases t <;> simp [frz] at h <;> (obtain ⟨rfl, _⟩ := h) <;> simp [frz]
  | d + 1, t, v, S, h => by
    cases t with
    | ref b e off n =>
      simp only [frz] at h
      obtain ⟨B, hb, h1⟩ := Option.bind_eq_some_iff.1 h
      split at h1
      · obtain ⟨⟨cs, S1⟩, h2, h3⟩ := Option.map_eq_some_iff.1 h1
        injection h3 with h3 h4; subst h3
        simp [frz]
      · cases h1
    | agg cs =>
      simp only [frz] at h
      obtain ⟨⟨cs', S1⟩, h2, h3⟩ := Option.map_eq_some_iff.1 h
      injection h3 with h3 h4; subst h3
      simp only [frz, frzL_idem (fun t v S hh => frz_idem d t v S hh) h2, Option.map_some]
    | tup cs =>
      simp only [frz] at h
      obtain ⟨⟨cs', S1⟩, h2, h3⟩ := Option.map_eq_some_iff.1 h
      injection h3 with h3 h4; subst h3
      simp only [frz, frzL_idem (fun t v S hh => frz_idem d t v S hh) h2, Option.map_some]
    | _ => simp [frz] at h; obtain ⟨rfl, _⟩ := h; simp [frz]
section
variable {P : Program} {vm : Nat → Md} {X : Ext}
theorem run_frz {D f : Nat} {args args' : List T} {S : List Nat} {σ : St} (hv : vm f = .view) (ha : frzL (frz σ D) args = some (args', S)) {r : T} (hl : leafT r = true) {σ' : St} (h : run P vm X f args' (σ.mark S) = some (r, σ')) :
    run P vm X f args σ = some (r, σ) := by
  have h1 := run_iff.1 h
  cases h1 with
  | raw k0 => rw [hv] at k0; cases k0
  | own k0 => rw [hv] at k0; cases k0
  | view k0 k1 k2 k3 k4 k5 =>
    have hid := frzL_idem (g := frz (σ.mark S) D) (fun t v S' hh => frz_idem D t v S' hh) ha
    have k1 := frzL_uniq hid k1; injection k1 with a b; subst a; subst b
    rw [mark_nil] at k2 k5
    have := EvP.view hv ha k2 k3 k4 (fun i hi => k5 i hi)
    rw [if_pos hl] at this
    exact run_iff.2 this
theorem run_frz_own {D f : Nat} {args args' : List T} {S : List Nat} {σ : St} (hv : vm f = .own) (ha : frzL (frz σ D) args = some (args', S)) {r : T} {σ' : St} (h : run P vm X f args' (σ.mark S) = some (r, σ')) :
    run P vm X f args σ = some (r, ⟨σ'.next, fun i => if i < σ.next then σ.blk i else σ'.blk i⟩) := by
  have h1 := run_iff.1 h
  cases h1 with
  | raw k0 => rw [hv] at k0; cases k0
  | view k0 => rw [hv] at k0; cases k0
  | own k0 k1 k2 k3 k4 k5 =>
    rename_i S' σ2 v K a
    have hid := frzL_idem (g := frz (σ.mark S) D) (fun t v S' hh => frz_idem D t v S' hh) ha
    have k1 := frzL_uniq hid k1; injection k1 with a b; subst a; subst b
    rw [mark_nil] at k2 k5
    have := run_iff.2 (EvP.own hv ha k2 k3 k4 (fun i hi => k5 i hi))
    rw [this]
    congr 2
    simp only [St.keep, St.mark, St.mk.injEq, true_and]
    funext i
    by_cases hi : i < σ.next <;> simp [hi]
end
end Go.Am
end
section
set_option linter.unusedVariables false
set_option linter.unusedSimpArgs false
namespace Go.Am
open Classical Go.RowKit
@[simp] theorem nid_none' (σ : St) : σ.nid none = σ.next := rfl
@[simp] theorem nid_some' (σ : St) (i : Nat) : σ.nid (some i) = i := rfl
@[simp] theorem okK_none (σ : St) : σ.okK none = true := rfl
@[simp] theorem push_next (σ : St) (B : Blk) : (σ.pushK none B).next = σ.next + 1 := rfl
@[simp] theorem pushS_next (σ : St) (k : Nat) (B : Blk) : (σ.pushK (some k) B).next = σ.next := rfl
theorem push_blk (σ : St) (B : Blk) (i : Nat) : (σ.pushK none B).blk i = if i = σ.next then some B else σ.blk i := rfl
@[simp] theorem push_blk_self (σ : St) (B : Blk) : (σ.pushK none B).blk σ.next = some B := by simp [push_blk]
@[simp] theorem set_next (σ : St) (b : Nat) (B : Blk) : (σ.set b B).next = σ.next := rfl
theorem set_blk (σ : St) (b : Nat) (B : Blk) (i : Nat) : (σ.set b B).blk i = if i = b then some B else σ.blk i := rfl
@[simp] theorem set_blk_self (σ : St) (b : Nat) (B : Blk) : (σ.set b B).blk b = some B := by simp [set_blk]
@[simp] theorem bump_next (σ : St) (n : Nat) : (σ.bump n).next = σ.next + n := rfl
@[simp] theorem bump_blk (σ : St) (n i : Nat) : (σ.bump n).blk i = if i < σ.next then σ.blk i else none := rfl
@[simp] theorem mark_next (σ : St) (S : List Nat) : (σ.mark S).next = σ.next := rfl
section
variable (P : Program) (O : Oracle)
@[simp] theorem codeQ_skip (Q : AExit → Fr → Prop) (fr : Fr) : codeQ P O .skip Q fr = Q .normal fr := (rfl)
@[simp] theorem codeQ_region (id : Nat) (ops : Array Oper) (Q : AExit → Fr → Prop) (fr : Fr) : codeQ P O (.region id ops false) Q fr = opsQ P O ops ops.toList (Q .normal) fr := (rfl)
@[simp] theorem codeQ_draw (id : Nat) (ops : Array Oper) (Q : AExit → Fr → Prop) (fr : Fr) : codeQ P O (.region id ops true) Q fr = drawQ P O ops (Q .normal) fr := (rfl)
@[simp] theorem codeQ_seq (a b : Code) (Q : AExit → Fr → Prop) (fr : Fr) : codeQ P O (.seq a b) Q fr = codeQ P O a (seqQ (codeQ P O b Q) Q) fr := (rfl)
@[simp] theorem codeQ_cond (c : Operand) (a b : Code) (Q : AExit → Fr → Prop) (fr : Fr) : codeQ P O (.cond c a b) Q fr = condQ (codeQ P O a Q) (codeQ P O b Q) fr (evalO fr.s c) := (rfl)
@[simp] theorem codeQ_block (id : Nat) (c : Code) (Q : AExit → Fr → Prop) (fr : Fr) : codeQ P O (.block id c) Q fr = codeQ P O c (blkQ id Q) fr := (rfl)
@[simp] theorem codeQ_loop (c : Code) (Q : AExit → Fr → Prop) (fr : Fr) : codeQ P O (.loop c) Q fr = loopQ (codeL P O c) Q fr := (rfl)
@[simp] theorem codeQ_exit (id : Nat) (Q : AExit → Fr → Prop) (fr : Fr) : codeQ P O (.exit id) Q fr = Q (.exit id) fr := (rfl)
@[simp] theorem codeQ_ret (Q : AExit → Fr → Prop) (fr : Fr) : codeQ P O .ret Q fr = Q .ret fr := (rfl)
@[simp] theorem seqQ_normal (K : Fr → Prop) (Q : AExit → Fr → Prop) (fr : Fr) : seqQ K Q .normal fr = K fr := (rfl)
@[simp] theorem seqQ_exit (K : Fr → Prop) (Q : AExit → Fr → Prop) (i : Nat) (fr : Fr) : seqQ K Q (.exit i) fr = Q (.exit i) fr := (rfl)
@[simp] theorem seqQ_ret (K : Fr → Prop) (Q : AExit → Fr → Prop) (fr : Fr) : seqQ K Q .ret fr = Q .ret fr := (rfl)
@[simp] theorem blkQ_normal (id : Nat) (Q : AExit → Fr → Prop) (fr : Fr) : blkQ id Q .normal fr = Q .normal fr := (rfl)
@[simp] theorem blkQ_exit (id i : Nat) (Q : AExit → Fr → Prop) (fr : Fr) : blkQ id Q (.exit i) fr = Q (if i = id then .normal else .exit i) fr := (rfl)
@[simp] theorem blkQ_ret (id : Nat) (Q : AExit → Fr → Prop) (fr : Fr) : blkQ id Q .ret fr = Q .ret fr := (rfl)
@[simp] theorem condQ_bool (K1 K2 : Fr → Prop) (fr : Fr) (b : Bool) : condQ K1 K2 fr (some (.bool b)) = ((b = true → K1 fr) ∧ (b = false → K2 fr)) := (rfl)
@[simp] theorem opsQ_nil (ops : Array Oper) (K : Fr → Prop) (fr : Fr) : opsQ P O ops [] K fr = K fr := (rfl)
@[simp] theorem opsQ_cons (ops : Array Oper) (o : Oper) (l : List Oper) (K : Fr → Prop) (fr : Fr) : opsQ P O ops (o :: l) K fr = opQ P O ops none o (opsQ P O ops l K) fr := (rfl)
def goQ (K : Fr → Prop) (fr : Fr) (d : Option Nat) (r : Option ARes) : Bool → Prop
  | true => resQ O K fr d r
  | false => K (fr.put d (.tup []) fr.σ)
@[simp] theorem goQ_true (K : Fr → Prop) (fr : Fr) (d : Option Nat) (r : Option ARes) : goQ O K fr d r true = resQ O K fr d r := (rfl)
@[simp] theorem goQ_false (K : Fr → Prop) (fr : Fr) (d : Option Nat) (r : Option ARes) : goQ O K fr d r false = K (fr.put d (.tup []) fr.σ) := (rfl)
@[simp] theorem opQ_eq (ops : Array Oper) (k : Option Nat) (o : Oper) (K : Fr → Prop) (fr : Fr) : opQ P O ops k o K fr = goQ O K fr o.dst (aOp P k fr o) (wantedA ops o fr.s) := by
  unfold opQ; cases wantedA ops o fr.s <;> rfl
@[simp] theorem resQ_val (K : Fr → Prop) (fr : Fr) (d : Option Nat) (v : T) (σ : St) : resQ O K fr d (some (.val v σ)) = K (fr.put d v σ) := (rfl)
@[simp] theorem resQ_skip (K : Fr → Prop) (fr : Fr) (d : Option Nat) (σ : St) : resQ O K fr d (some (.skip σ)) = K (fr.put d (.tup []) σ) := (rfl)
@[simp] theorem resQ_call (K : Fr → Prop) (fr : Fr) (d : Option Nat) (f : FuncId) (args : List T) : resQ O K fr d (some (.call f args)) = ∃ r σ, O f args fr.σ = some (r, σ) ∧ K (fr.put d r σ) := (rfl)
@[simp] theorem resQ_none (K : Fr → Prop) (fr : Fr) (d : Option Nat) : resQ O K fr d none = False := (rfl)
@[simp] theorem opsD_nil (ops : Array Oper) (b i : Nat) (K : Fr → Prop) (fr : Fr) : opsD P O ops b i [] K fr = K fr := (rfl)
@[simp] theorem opsD_cons (ops : Array Oper) (b i : Nat) (o : Oper) (l : List Oper) (K : Fr → Prop) (fr : Fr) : opsD P O ops b i (o :: l) K fr = opD P O ops (b + i) o (opsD P O ops b (i + 1) l K) fr := (rfl)
def goD (K : Fr → Prop) (fr : Fr) (d : Option Nat) (r : Option ARes) : Bool → Prop
  | true => resD O K fr d r
  | false => K (fr.put d (.tup []) fr.σ)
@[simp] theorem goD_true (K : Fr → Prop) (fr : Fr) (d : Option Nat) (r : Option ARes) : goD O K fr d r true = resD O K fr d r := (rfl)
@[simp] theorem goD_false (K : Fr → Prop) (fr : Fr) (d : Option Nat) (r : Option ARes) : goD O K fr d r false = K (fr.put d (.tup []) fr.σ) := (rfl)
@[simp] theorem opD_eq (ops : Array Oper) (k : Nat) (o : Oper) (K : Fr → Prop) (fr : Fr) : opD P O ops k o K fr = goD O K fr o.dst (aOp P (some k) fr o) (wantedA ops o fr.s) := by
  unfold opD; cases wantedA ops o fr.s <;> rfl
@[simp] theorem resD_val (K : Fr → Prop) (fr : Fr) (d : Option Nat) (v : T) (σ : St) : resD O K fr d (some (.val v σ)) = (σ = fr.σ ∧ K (fr.put d v fr.σ)) := (rfl)
@[simp] theorem resD_skip (K : Fr → Prop) (fr : Fr) (d : Option Nat) (σ : St) : resD O K fr d (some (.skip σ)) = (σ = fr.σ ∧ K (fr.put d (.tup []) fr.σ)) := (rfl)
@[simp] theorem resD_call (K : Fr → Prop) (fr : Fr) (d : Option Nat) (f : FuncId) (args : List T) : resD O K fr d (some (.call f args)) = ∃ r, O f args fr.σ = some (r, fr.σ) ∧ K (fr.put d r fr.σ) := (rfl)
@[simp] theorem resD_none (K : Fr → Prop) (fr : Fr) (d : Option Nat) : resD O K fr d none = False := (rfl)
@[simp] theorem put_s (fr : Fr) (d : Nat) (v : T) (σ : St) (j : Nat) : (fr.put (some d) v σ).s j = if j = d then v else fr.s j := (rfl)
@[simp] theorem put_sn (fr : Fr) (v : T) (σ : St) : (fr.put none v σ).s = fr.s := (rfl)
@[simp] theorem put_σ (fr : Fr) (d : Option Nat) (v : T) (σ : St) : (fr.put d v σ).σ = σ := by cases d <;> rfl
@[simp] theorem evalO_tmp (s : Nat → T) (t : Nat) : evalO s (.tmp t) = some (s t) := (rfl)
@[simp] theorem evalO_const (s : Nat → T) (v : Value) : evalO s (.const v) = T.ofV' v := (rfl)
@[simp] theorem evalO_func (s : Nat → T) (f : Nat) : evalO s (.func f) = some (.fn f [] []) := (rfl)
@[simp] theorem evals_nil (s : Nat → T) : evals s [] = some [] := (rfl)
@[simp] theorem evals_cons (s : Nat → T) (x : Operand) (xs : List Operand) : evals s (x :: xs) = (evalO s x).bind fun v => (evals s xs).map (v :: ·) := (rfl)
@[simp] theorem evalPs_nil (s : Nat → T) : evalPs s [] = some [] := (rfl)
@[simp] theorem evalPs_cons (s : Nat → T) (i : Nat) (x : Operand) (xs : List (Nat × Operand)) : evalPs s ((i, x) :: xs) = (evalO s x).bind fun v => (evalPs s xs).map ((i, v) :: ·) := (rfl)
@[simp] theorem ofV'_int (k : IntKind) (n : Int) : T.ofV' (.int k n) = some (.int k n) := (rfl)
@[simp] theorem ofV'_bool (b : Bool) : T.ofV' (.bool b) = some (.bool b) := (rfl)
@[simp] theorem ofV'_string (s : ByteArray) : T.ofV' (.string s) = some (.str s) := (rfl)
@[simp] theorem ofV'_nilp : T.ofV' (.pointer none) = some .nilp := (rfl)
@[simp] theorem ofV'_nilf : T.ofV' .nilFunc = some .nilf := (rfl)
@[simp] theorem ofV'_nils : T.ofV' (.slice none 0 0) = some (.row true 0 []) := (rfl)
@[simp] theorem enterS_eq (args : List T) (j : Nat) : enterS args j = args.getD j (.tup []) := (rfl)
end
@[simp] theorem nxt_1 (n : Nat) : n + 1 + 1 = n + 2 := rfl
@[simp] theorem nxt_2 (n : Nat) : n + 2 + 1 = n + 3 := rfl
@[simp] theorem nxt_3 (n : Nat) : n + 3 + 1 = n + 4 := rfl
@[simp] theorem nxt_4 (n : Nat) : n + 4 + 1 = n + 5 := rfl
@[simp] theorem nxt_5 (n : Nat) : n + 5 + 1 = n + 6 := rfl
@[simp] theorem nxt_6 (n : Nat) : n + 6 + 1 = n + 7 := rfl
@[simp] theorem nxt_7 (n : Nat) : n + 7 + 1 = n + 8 := rfl
@[simp] theorem nxt_8 (n : Nat) : n + 8 + 1 = n + 9 := rfl
@[simp] theorem nxt_9 (n : Nat) : n + 9 + 1 = n + 10 := rfl
@[simp] theorem nxt_10 (n : Nat) : n + 10 + 1 = n + 11 := rfl
@[simp] theorem nxt_11 (n : Nat) : n + 11 + 1 = n + 12 := rfl
@[simp] theorem nxt_12 (n : Nat) : n + 12 + 1 = n + 13 := rfl
@[simp] theorem nxt_13 (n : Nat) : n + 13 + 1 = n + 14 := rfl
@[simp] theorem nxt_14 (n : Nat) : n + 14 + 1 = n + 15 := rfl
@[simp] theorem nxt_15 (n : Nat) : n + 15 + 1 = n + 16 := rfl
@[simp] theorem nxt_16 (n : Nat) : n + 16 + 1 = n + 17 := rfl
@[simp] theorem nxt_17 (n : Nat) : n + 17 + 1 = n + 18 := rfl
@[simp] theorem nxt_18 (n : Nat) : n + 18 + 1 = n + 19 := rfl
@[simp] theorem nxt_19 (n : Nat) : n + 19 + 1 = n + 20 := rfl
@[simp] theorem nxt_20 (n : Nat) : n + 20 + 1 = n + 21 := rfl
@[simp] theorem nxt_21 (n : Nat) : n + 21 + 1 = n + 22 := rfl
@[simp] theorem nxt_22 (n : Nat) : n + 22 + 1 = n + 23 := rfl
@[simp] theorem nxt_23 (n : Nat) : n + 23 + 1 = n + 24 := rfl
structure Grow (σ σ' : St) : Prop where
  nx : σ.next ≤ σ'.next
  old : ∀ i, i < σ.next → σ'.blk i = σ.blk i
theorem Grow.refl (σ : St) : Grow σ σ := ⟨Nat.le_refl _, fun _ _ => rfl⟩
theorem Grow.trans {σ σ1 σ2 : St} (h : Grow σ σ1) (k : Grow σ1 σ2) : Grow σ σ2 := ⟨Nat.le_trans h.nx k.nx, fun i hi => by rw [k.old i (Nat.lt_of_lt_of_le hi h.nx), h.old i hi]⟩
theorem Grow.push {σ σ1 : St} (h : Grow σ σ1) (B : Blk) : Grow σ (σ1.pushK none B) := ⟨Nat.le_trans h.nx (by simp), fun i hi => by rw [push_blk, if_neg (by have := h.nx; omega), h.old i hi]⟩
@[simp] theorem grow_push (σ : St) (B : Blk) : Grow σ (σ.pushK none B) := (Grow.refl σ).push B
theorem Grow.set {σ σ1 : St} (h : Grow σ σ1) {b : Nat} (hb : σ.next ≤ b) (B : Blk) : Grow σ (σ1.set b B) := ⟨h.nx, fun i hi => by rw [set_blk, if_neg (by omega), h.old i hi]⟩
theorem Grow.bump {σ σ1 : St} (h : Grow σ σ1) (n : Nat) : Grow σ (σ1.bump n) := ⟨Nat.le_trans h.nx (by simp), fun i hi => by rw [bump_blk, if_pos (Nat.lt_of_lt_of_le hi h.nx), h.old i hi]⟩
theorem Grow.keep {σ σ2 : St} (h : σ.next ≤ σ2.next) (K : List Nat) : Grow σ (σ.keep σ2 K) := ⟨h, fun i hi => by simp [St.keep, hi]⟩
section
variable {P : Program} {vm : Nat → Md} {X : Ext}
def shutV (σ0 : St) (r' : T) (fr : Fr) : Option (T × List Nat) → Prop
  | some (v, S) => v = r' ∧ pureT r' = true ∧ Grow σ0 fr.σ ∧ ∀ b ∈ S, σ0.next ≤ b
  | none => False
def endV (P : Program) (rs : List ResultVar) (σ0 : St) (r' : T) : AExit → Fr → Prop
  | .exit _, _ => False
  | .normal, fr => shutV σ0 r' fr ((resL P fr rs).bind fun l => frz fr.σ 4194304 (tupOf l))
  | .ret, fr => shutV σ0 r' fr ((resL P fr rs).bind fun l => frz fr.σ 4194304 (tupOf l))
theorem filter_new {S : List Nat} {n : Nat} (h : ∀ b ∈ S, n ≤ b) : (S.filter fun i => decide (i < n)) = [] := by
  rw [List.filter_eq_nil_iff]
  intro a ha
  have := h a ha
  simp; omega
def shutK (σ0 : St) (K : T → Prop) (fr : Fr) : Option (T × List Nat) → Prop
  | some (v, S) => pureT v = true ∧ Grow σ0 fr.σ ∧ (∀ b ∈ S, σ0.next ≤ b) ∧ K v
  | none => False
def endK (P : Program) (rs : List ResultVar) (σ0 : St) (K : T → Prop) : AExit → Fr → Prop
  | .exit _, _ => False
  | .normal, fr => shutK σ0 K fr ((resL P fr rs).bind fun l => frz fr.σ 4194304 (tupOf l))
  | .ret, fr => shutK σ0 K fr ((resL P fr rs).bind fun l => frz fr.σ 4194304 (tupOf l))
def shutO (σ0 : St) (r' : T) (fr : Fr) : Option (T × List Nat) → Prop
  | some (v, S) => v = r' ∧ (∀ b ∈ S, σ0.next ≤ b) ∧ S.Nodup ∧ Grow σ0 fr.σ
  | none => False
def endO (P : Program) (rs : List ResultVar) (σ0 : St) (k : Nat) (r' : T) : AExit → Fr → Prop
  | .exit _, _ => False
  | .normal, fr => shutO σ0 r' fr ((resL P fr rs).bind fun l => own fr.σ k (tupOf l))
  | .ret, fr => shutO σ0 r' fr ((resL P fr rs).bind fun l => own fr.σ k (tupOf l))
def shutR (K : T → St → Prop) (fr : Fr) : Option (List T) → Prop
  | some l => K (tupOf l) fr.σ
  | none => False
def endR (P : Program) (rs : List ResultVar) (K : T → St → Prop) : AExit → Fr → Prop
  | .exit _, _ => False
  | .normal, fr => shutR K fr (resL P fr rs)
  | .ret, fr => shutR K fr (resL P fr rs)
end
section
variable (P : Program) (σ0 : St) (r' : T) (rs : List ResultVar) (fr : Fr)
@[simp] theorem endV_normal : endV P rs σ0 r' .normal fr = shutV σ0 r' fr ((resL P fr rs).bind fun l => frz fr.σ 4194304 (tupOf l)) := (rfl)
@[simp] theorem endV_ret : endV P rs σ0 r' .ret fr = shutV σ0 r' fr ((resL P fr rs).bind fun l => frz fr.σ 4194304 (tupOf l)) := (rfl)
@[simp] theorem endK_normal (K : T → Prop) : endK P rs σ0 K .normal fr = shutK σ0 K fr ((resL P fr rs).bind fun l => frz fr.σ 4194304 (tupOf l)) := (rfl)
@[simp] theorem endK_ret (K : T → Prop) : endK P rs σ0 K .ret fr = shutK σ0 K fr ((resL P fr rs).bind fun l => frz fr.σ 4194304 (tupOf l)) := (rfl)
@[simp] theorem shutK_some (K : T → Prop) (v : T) (S : List Nat) : shutK σ0 K fr (some (v, S)) = (pureT v = true ∧ Grow σ0 fr.σ ∧ (∀ b ∈ S, σ0.next ≤ b) ∧ K v) := (rfl)
@[simp] theorem endO_normal (k : Nat) : endO P rs σ0 k r' .normal fr = shutO σ0 r' fr ((resL P fr rs).bind fun l => own fr.σ k (tupOf l)) := (rfl)
@[simp] theorem endO_ret (k : Nat) : endO P rs σ0 k r' .ret fr = shutO σ0 r' fr ((resL P fr rs).bind fun l => own fr.σ k (tupOf l)) := (rfl)
@[simp] theorem endR_normal (K : T → St → Prop) : endR P rs K .normal fr = shutR K fr (resL P fr rs) := (rfl)
@[simp] theorem endR_ret (K : T → St → Prop) : endR P rs K .ret fr = shutR K fr (resL P fr rs) := (rfl)
@[simp] theorem shutV_some (v : T) (S : List Nat) : shutV σ0 r' fr (some (v, S)) = (v = r' ∧ pureT r' = true ∧ Grow σ0 fr.σ ∧ ∀ b ∈ S, σ0.next ≤ b) := (rfl)
@[simp] theorem shutO_some (v : T) (S : List Nat) : shutO σ0 r' fr (some (v, S)) = (v = r' ∧ (∀ b ∈ S, σ0.next ≤ b) ∧ S.Nodup ∧ Grow σ0 fr.σ) := (rfl)
@[simp] theorem shutR_some (K : T → St → Prop) (l : List T) : shutR K fr (some l) = K (tupOf l) fr.σ := (rfl)
@[simp] theorem resL_nil : resL P fr [] = some [] := (rfl)
@[simp] theorem resL_cons (r : ResultVar) (l : List ResultVar) : resL P fr (r :: l) = (resV P fr r).bind fun v => (resL P fr l).map (v :: ·) := (rfl)
@[simp] theorem resV_tmp (t : Nat) : resV P fr (.tmp t) = some (fr.s t) := (rfl)
@[simp] theorem resV_cell (a : Nat) (t : TypeId) : resV P fr (.cell a t) = loadA P fr.σ t (fr.s a) := (rfl)
@[simp] theorem tupOf_one (v : T) : tupOf [v] = v := (rfl)
@[simp] theorem tupOf_nil : tupOf [] = .tup [] := (rfl)
@[simp] theorem tupOf_two (u v : T) (l : List T) : tupOf (u :: v :: l) = .tup (u :: v :: l) := (rfl)
@[simp] theorem grow_refl (σ : St) : Grow σ σ := .refl σ
end
end Go.Am
end
section
set_option linter.unusedVariables false
set_option linter.unusedSimpArgs false
namespace Go.Am
open Classical
theorem blk_set' {σ : St} {x b : Nat} {B Bk : Blk} (hx : σ.blk x = none) (h : σ.blk b = some Bk) : (σ.set x B).blk b = some Bk := by
  rw [set_blk, if_neg (fun e => by subst e; rw [hx] at h; cases h), h]
theorem set_comm {σ : St} {x b : Nat} {B C : Blk} (h : b ≠ x) : (σ.set x B).set b C = (σ.set b C).set x B := by
  simp only [St.set, St.mk.injEq, true_and]
  funext i
  by_cases h1 : i = b
  · subst h1; simp [h]
  · simp [h1]
theorem okK_set {σ : St} {x : Nat} {B : Blk} {k : Option Nat} (hk : k ≠ some x) : (σ.set x B).okK k = σ.okK k := by
  cases k with
  | none => rfl
  | some i => simp only [St.okK, St.set]; rw [if_neg (fun e => hk (by rw [e]))]; rfl
theorem nid_set {σ : St} {x : Nat} {B : Blk} {k : Option Nat} : (σ.set x B).nid k = σ.nid k := rfl
theorem nid_ne {σ : St} {x : Nat} {k : Option Nat} (hk : k ≠ some x) (hl : x < σ.next) : σ.nid k ≠ x := by
  cases k with
  | none => simp [St.nid]; omega
  | some i => simp only [St.nid, Option.getD_some]; exact fun e => hk (by rw [e])
theorem St.ext' {a b : St} (h1 : a.next = b.next) (h2 : ∀ i, a.blk i = b.blk i) : a = b := by
  obtain ⟨n, f⟩ := a; obtain ⟨m, g⟩ := b
  simp only at h1 h2
  rw [h1, funext h2]
theorem pushK_set {σ : St} {x : Nat} {B C : Blk} {k : Option Nat} (hk : k ≠ some x) (hl : x < σ.next) : (σ.set x B).pushK k C = (σ.pushK k C).set x B := by
  have hn := nid_ne hk hl
  refine St.ext' (by cases k <;> rfl) fun i => ?_
  show (if i = σ.nid k then some C else if i = x then some B else σ.blk i) = (if i = x then some B else if i = σ.nid k then some C else σ.blk i)
  by_cases h1 : i = x
  · rw [if_neg (fun e => hn (by rw [← e, h1])), if_pos h1, if_pos h1]
  · rw [if_neg h1, if_neg h1]
def Fm {α : Type} (g : α → α → Prop) (o o' : Option α) : Prop := ∀ a, o = some a → ∃ a', o' = some a' ∧ g a a'
section
variable {α β : Type} {g : α → α → Prop} {g1 : β → β → Prop}
theorem fm_none {o' : Option α} : Fm g none o' := fun _ h => by cases h
theorem fm_some {a a' : α} (h : g a a') : Fm g (some a) (some a') := fun _ e => by cases e; exact ⟨a', rfl, h⟩
theorem fm_bind {o : Option β} {k k' : β → Option α} (h : ∀ y, Fm g (k y) (k' y)) : Fm g (o.bind k) (o.bind k') := fun a e => by
  obtain ⟨y, h1, h2⟩ := Option.bind_eq_some_iff.1 e
  obtain ⟨a', h3, h4⟩ := h y a h2
  exact ⟨a', by rw [h1]; exact h3, h4⟩
theorem fm_bindS {o o' : Option β} (ho : Fm Eq o o') {k k' : β → Option α} (h : ∀ y, Fm g (k y) (k' y)) : Fm g (o.bind k) (o'.bind k') := fun a e => by
  obtain ⟨y, h1, h2⟩ := Option.bind_eq_some_iff.1 e
  obtain ⟨y', h5, rfl⟩ := ho y h1
  obtain ⟨a', h3, h4⟩ := h y a h2
  exact ⟨a', by rw [h5]; exact h3, h4⟩
theorem fm_map {o : Option β} {f f' : β → α} (h : ∀ y, g (f y) (f' y)) : Fm g (o.map f) (o.map f') := fun a e => by
  obtain ⟨y, h1, rfl⟩ := Option.map_eq_some_iff.1 e
  exact ⟨f' y, by rw [h1]; rfl, h y⟩
theorem fm_mapG {o o' : Option β} (ho : Fm g1 o o') {f f' : β → α} (h : ∀ y y', g1 y y' → g (f y) (f' y')) : Fm g (o.map f) (o'.map f') := fun a e => by
  obtain ⟨y, h1, rfl⟩ := Option.map_eq_some_iff.1 e
  obtain ⟨y', h5, h6⟩ := ho y h1
  exact ⟨f' y', by rw [h5]; rfl, h y y' h6⟩
theorem fm_ite {c : Prop} [Decidable c] {a b a' b' : Option α} (h1 : c → Fm g a a') (h2 : ¬c → Fm g b b') : Fm g (if c then a else b) (if c then a' else b') := by
  by_cases h : c
  · rw [if_pos h, if_pos h]; exact h1 h
  · rw [if_neg h, if_neg h]; exact h2 h
theorem fm_refl {o : Option α} : Fm Eq o o := fun a h => ⟨a, h, rfl⟩
end
section
variable {P : Program} {σ : St} {x : Nat} {B : Blk} (hx : σ.blk x = none) (hl : x < σ.next)
include hx
theorem fm_blk {α : Type} {g : α → α → Prop} {b : Nat} {k k' : Blk → Option α} (h : ∀ C, b ≠ x → σ.blk b = some C → Fm g (k C) (k' C)) : Fm g ((σ.blk b).bind k) (((σ.set x B).blk b).bind k') := fun a e => by
  obtain ⟨C, h1, h2⟩ := Option.bind_eq_some_iff.1 e
  obtain ⟨a', h3, h4⟩ := h C (fun e => by subst e; rw [hx] at h1; cases h1) h1 a h2
  exact ⟨a', by rw [blk_set' hx h1]; exact h3, h4⟩
theorem cellsOf_fm {t : T} : Fm Eq (cellsOf σ t) (cellsOf (σ.set x B) t) := by
  cases t with
  | ref b e off n => exact fm_blk hx fun C _ _ => fm_refl
  | _ => exact fm_refl
theorem loadA_fm {ty : TypeId} {t : T} : Fm Eq (loadA P σ ty t) (loadA P (σ.set x B) ty t) := by
  cases t with
  | ptr b e off n => exact fm_blk hx fun C _ _ => fm_refl
  | _ => exact fm_refl
theorem newsA_fm {sz : Nat} {t : T} : Fm Eq (newsA σ sz t) (newsA (σ.set x B) sz t) := by
  cases t with
  | ref b e off n => show Fm Eq ((cellsOf σ _).bind _) ((cellsOf (σ.set x B) _).bind _); exact fm_bindS (cellsOf_fm hx) fun y => fm_refl
  | _ => exact fm_refl
theorem idxAddrA_fm {ty : TypeId} {t i : T} : Fm Eq (idxAddrA P σ ty t i) (idxAddrA P (σ.set x B) ty t i) := by
  cases i with
  | int k j =>
    refine fm_bind fun e => fm_bind fun sz => ?_
    cases t with
    | ref b e off n => exact fm_blk hx fun C _ _ => fm_refl
    | _ => exact fm_refl
  | _ => exact fm_refl
theorem sliceA_fm {ty : TypeId} {t : T} {lo hi mx : Option T} : Fm Eq (sliceA P σ ty t lo hi mx) (sliceA P (σ.set x B) ty t lo hi mx) := by
  cases t with
  | ref b e off n => exact fm_bind fun e => fm_bind fun sz => fm_blk hx fun C _ _ => fm_refl
  | _ => exact fm_refl
def Sx (x : Nat) (B : Blk) (σ σ' : St) : Prop := σ' = σ.set x B ∧ σ.blk x = none ∧ x < σ.next
include hl
theorem sx_refl : Sx x B σ (σ.set x B) := ⟨rfl, hx, hl⟩
theorem sx_push {k : Option Nat} (hk : k ≠ some x) {C : Blk} : Sx x B (σ.pushK k C) ((σ.set x B).pushK k C) := ⟨pushK_set hk hl, by
  simp only [St.pushK]; rw [if_neg (fun e => nid_ne hk hl e.symm), hx], by cases k <;> simp [St.pushK] <;> omega⟩
theorem sx_set {b : Nat} (hb : b ≠ x) {C : Blk} : Sx x B (σ.set b C) ((σ.set x B).set b C) := ⟨set_comm hb, by rw [set_blk, if_neg (fun e => hb e.symm), hx], hl⟩
theorem storeA_fm {ty : TypeId} {p v : T} : Fm (Sx x B) (storeA P σ ty p v) (storeA P (σ.set x B) ty p v) := by
  cases p with
  | ptr b e off n => exact fm_blk hx fun C hb _ => fm_bind fun m => fm_ite (fun _ => fm_some (sx_set hx hl hb)) (fun _ => fm_none)
  | _ => exact fm_none
theorem convA_fm {k : Option Nat} (hk : k ≠ some x) {src dst : TypeId} {t : T} : Fm (fun p q => q.1 = p.1 ∧ Sx x B p.2 q.2) (convA P k σ src dst t) (convA P k (σ.set x B) src dst t) := by
  unfold convA
  cases t with
  | int kk n => 
    refine fm_ite (fun _ => ?_) (fun _ => fm_none)
    split
    · exact fm_some ⟨rfl, sx_refl hx hl⟩
    · exact fm_none
  | str s =>
    refine fm_ite (fun _ => fm_ite (fun _ => fm_some ⟨rfl, sx_refl hx hl⟩) (fun _ => fm_bind fun e => ?_)) (fun _ => fm_none)
    rw [okK_set hk]
    exact fm_ite (fun _ => fm_some ⟨rfl, sx_push hx hl hk⟩) (fun _ => fm_none)
  | _ => exact fm_ite (fun _ => fm_bind fun e => fm_ite (fun _ => fm_bindS (cellsOf_fm hx) fun y => fm_ite (fun _ => fm_map fun y => ⟨rfl, sx_refl hx hl⟩) (fun _ => fm_none)) (fun _ => fm_none)) (fun _ => fm_none)
theorem appZ_fm {k : Option Nat} (hk : k ≠ some x) {sz by_ : Nat} {z0 : List T} {s u : T} : Fm (fun p q => q.1 = p.1 ∧ Sx x B p.2 q.2) (appZ k σ sz by_ z0 s u) (appZ k (σ.set x B) sz by_ z0 s u) := by
  unfold appZ
  simp only [okK_set hk, nid_set]
  split
  · exact fm_ite (fun _ => fm_some ⟨rfl, sx_push hx hl hk⟩) (fun _ => fm_none)
  · exact fm_none
theorem appendA_fm {k : Option Nat} (hk : k ≠ some x) {t t2 : TypeId} {u v : T} : Fm (fun p q => q.1 = p.1 ∧ Sx x B p.2 q.2) (appendA P k σ t t2 u v) (appendA P k (σ.set x B) t t2 u v) := by
  unfold appendA
  refine fm_bind fun e => fm_bind fun sz => fm_bind fun by_ => fm_bind fun z0 => fm_ite (fun _ => fm_ite (fun _ => fm_none) fun _ => appZ_fm hx hl hk) fun _ => fm_ite (fun _ => fm_none) fun _ => fm_bindS (newsA_fm hx) fun y => ?_
  refine fm_ite (fun _ => fm_none) fun _ => ?_
  simp only [okK_set hk, nid_set]
  have push : ∀ {C : Blk} {v : T}, Fm (fun p q => q.1 = p.1 ∧ Sx x B p.2 q.2) (some (v, σ.pushK k C)) (some (v, (σ.set x B).pushK k C)) := fun {C v} => fm_some ⟨rfl, sx_push hx hl hk⟩
  have same : ∀ {v : T}, Fm (fun p q => q.1 = p.1 ∧ Sx x B p.2 q.2) (some (v, σ)) (some (v, σ.set x B)) := fun {v} => fm_some ⟨rfl, sx_refl hx hl⟩
  cases u with
  | emp => exact fm_ite (fun _ => same) fun _ => fm_ite (fun _ => push) fun _ => fm_none
  | row z n cs =>
    cases z with
    | false => exact fm_ite (fun _ => same) fun _ => fm_none
    | true =>
      cases n with
      | zero => cases cs with
        | nil => exact fm_ite (fun _ => same) fun _ => fm_ite (fun _ => push) fun _ => fm_none
        | cons _ _ => exact fm_none
      | succ n => exact fm_none
  | ref b ep off n => exact fm_blk hx fun C hb _ => fm_ite (fun _ => fm_ite (fun _ => same) fun _ => fm_none) fun _ => fm_ite (fun _ => fm_some ⟨rfl, sx_set hx hl hb⟩) fun _ => fm_ite (fun _ => fm_some ⟨rfl, sx_set hx hl hb⟩) fun _ => fm_none
  | _ => exact fm_none
def ARes.Sx (x : Nat) (B : Blk) : ARes → ARes → Prop
  | .val v σ, .val v' σ' => v' = v ∧ Go.Am.Sx x B σ σ'
  | .skip σ, .skip σ' => Go.Am.Sx x B σ σ'
  | .call f as, .call f' as' => f' = f ∧ as' = as
  | _, _ => False
theorem aOp_fm {k : Option Nat} (hk : k ≠ some x) {s : Nat → T} {o : Oper} : Fm (ARes.Sx x B) (aOp P k ⟨s, σ⟩ o) (aOp P k ⟨s, σ.set x B⟩ o) := by
  obtain ⟨d, op, ty, ps, af, g⟩ := o
  have V : ∀ {o o' : Option T}, Fm Eq o o' → Fm (ARes.Sx x B) (o.map fun y => .val y σ) (o'.map fun y => .val y (σ.set x B)) := fun h => fm_mapG h fun y y' e => by subst e; exact ⟨rfl, sx_refl hx hl⟩
  have same : ∀ {v : T}, Fm (ARes.Sx x B) (some (.val v σ)) (some (.val v (σ.set x B))) := fun {v} => fm_some ⟨rfl, sx_refl hx hl⟩
  have push : ∀ {C : Blk} {v : T}, Fm (ARes.Sx x B) (some (.val v (σ.pushK k C))) (some (.val v ((σ.set x B).pushK k C))) := fun {C v} => fm_some ⟨rfl, sx_push hx hl hk⟩
  cases op with
  | move y => exact V fm_refl
  | assign y => exact V fm_refl
  | pick c a b =>
    refine fm_bind fun y => ?_
    cases y with
    | bool v => cases v <;> exact V fm_refl
    | _ => exact fm_none
  | alloc t => simp only [aOp, okK_set hk, nid_set]; exact fm_bind fun z => fm_ite (fun _ => push) fun _ => fm_none
  | box t y => simp only [aOp, okK_set hk, nid_set]; exact fm_bind fun z => fm_ite (fun _ => push) fun _ => fm_none
  | build t parts => simp only [aOp]; exact fm_bind fun z => fm_bind fun ps => fm_ite (fun _ => V fm_refl) fun _ => fm_none
  | buildSlice t n parts => simp only [aOp, okK_set hk, nid_set]; exact fm_bind fun e => fm_bind fun sz => fm_bind fun z => fm_bind fun ps => fm_ite (fun _ => fm_map fun y => ⟨rfl, sx_push hx hl hk⟩) fun _ => fm_none
  | load t a => simp only [aOp]; exact fm_bind fun y => V (loadA_fm hx)
  | store t a y => simp only [aOp]; exact fm_bind fun p => fm_bind fun v => fm_mapG (storeA_fm hx hl) fun y y' h => h
  | nilCheck y =>
    refine fm_bind fun y => ?_
    cases y <;> first | exact same | exact fm_none
  | binOp op t a b u => simp only [aOp]; exact fm_bind fun a => fm_bind fun b => V fm_refl
  | unOp op t a => simp only [aOp]; exact fm_bind fun a => V fm_refl
  | convert src dst a => simp only [aOp]; exact fm_bind fun a => fm_mapG (convA_fm hx hl hk) fun y y' h => h
  | makeFunc f first caps =>
    cases f with
    | func f => simp only [aOp]; exact fm_bind fun a => fm_bind fun b => same
    | _ => exact fm_none
  | makeSlice t l c =>
    simp only [aOp, okK_set hk, nid_set]
    refine fm_bind fun l => fm_bind fun c => ?_
    split
    · exact fm_bind fun e => fm_bind fun sz => fm_bind fun b => fm_bind fun z => fm_ite (fun _ => push) fun _ => fm_none
    · exact fm_none
  | slice t a lo hi mx => simp only [aOp]; exact fm_bind fun a => fm_bind fun lo => fm_bind fun hi => fm_bind fun mx => fm_ite (fun _ => V (sliceA_fm hx)) fun _ => fm_none
  | fieldAddr t a f =>
    simp only [aOp]
    refine fm_bind fun a => fm_bind fun q => fm_ite (fun _ => fm_none) fun _ => ?_
    cases a with
    | ptr b e o m => exact fm_ite (fun _ => same) fun _ => fm_none
    | vw cs => exact fm_ite (fun _ => same) fun _ => fm_none
    | _ => exact fm_none
  | field t a f =>
    simp only [aOp]
    refine fm_bind fun a => fm_bind fun q => ?_
    cases a with
    | agg cs => exact V fm_refl
    | _ => exact fm_none
  | indexAddr t a i => simp only [aOp]; exact fm_bind fun a => fm_bind fun i => V (idxAddrA_fm hx)
  | index t a i => simp only [aOp]; exact fm_bind fun a => fm_bind fun i => V fm_refl
  | extract a i =>
    refine fm_bind fun y => ?_
    cases y with
    | tup cs => exact V fm_refl
    | _ => exact fm_none
  | call c =>
    simp only [aOp]
    refine fm_bind fun args => ?_
    split
    · refine fm_bind fun y => ?_
      cases y with
      | fn f a b => exact fm_some ⟨rfl, rfl⟩
      | _ => exact fm_none
    · split
      · refine V ?_
        rename_i t
        rename_i y _ _ _
        cases y <;> exact fm_refl
      · exact fm_none
    · split
      · exact V fm_refl
      · exact fm_none
    · split
      · exact fm_mapG (appendA_fm hx hl hk) fun y y' h => h
      · exact fm_none
    · split
      · exact same
      · exact fm_none
    · split
      · exact same
      · exact fm_none
    · exact fm_none
  | _ => exact fm_none
end
theorem frzL_fm {f g : T → Option (T × List Nat)} {x : Nat} (h : ∀ t p, f t = some p → g t = some p ∧ x ∉ p.2) : ∀ {ts : List T} {q : List T × List Nat}, frzL f ts = some q → frzL g ts = some q ∧ x ∉ q.2
  | [], q, e => by simp only [frzL] at e ⊢; injection e with e; subst e; exact ⟨rfl, by simp⟩
  | t :: ts, q, e => by
    simp only [frzL] at e ⊢
    obtain ⟨p, h1, h2⟩ := Option.bind_eq_some_iff.1 e
    obtain ⟨q', h3, rfl⟩ := Option.map_eq_some_iff.1 h2
    obtain ⟨k1, k2⟩ := h t p h1
    obtain ⟨k3, k4⟩ := frzL_fm h h3
    exact ⟨by rw [k1, Option.bind_some, k3]; rfl, by simp [k2, k4]⟩
theorem frz_fm {σ : St} {x : Nat} {B : Blk} (hx : σ.blk x = none) : ∀ (d : Nat) (t : T) (p : T × List Nat), frz σ d t = some p → frz (σ.set x B) d t = some p ∧ x ∉ p.2
  | 0, t, p, h => by cases t <;> simp only [frz] at h ⊢ <;> first | (cases h; done) | (injection h with h; subst h; exact ⟨rfl, by simp⟩)
  | d + 1, t, p, h => by
    cases t with
    | ref b e off n =>
      simp only [frz] at h ⊢
      obtain ⟨C, h1, h2⟩ := Option.bind_eq_some_iff.1 h
      rw [blk_set' hx h1, Option.bind_some]
      split at h2
      · rename_i hc
        obtain ⟨q, h3, rfl⟩ := Option.map_eq_some_iff.1 h2
        obtain ⟨k1, k2⟩ := frzL_fm (frz_fm hx d) h3
        rw [if_pos hc, k1]
        exact ⟨rfl, by simp only [List.mem_cons]; rintro (e | e); (subst e; rw [hx] at h1; cases h1); exact k2 e⟩
      · cases h2
    | agg cs =>
      simp only [frz] at h ⊢
      obtain ⟨q, h3, rfl⟩ := Option.map_eq_some_iff.1 h
      obtain ⟨k1, k2⟩ := frzL_fm (frz_fm hx d) h3
      rw [k1]; exact ⟨rfl, k2⟩
    | tup cs =>
      simp only [frz] at h ⊢
      obtain ⟨q, h3, rfl⟩ := Option.map_eq_some_iff.1 h
      obtain ⟨k1, k2⟩ := frzL_fm (frz_fm hx d) h3
      rw [k1]; exact ⟨rfl, k2⟩
    | _ => simp only [frz] at h ⊢; injection h with h; subst h; exact ⟨rfl, by simp⟩
theorem own_fm {σ : St} {x : Nat} {B : Blk} (hx : σ.blk x = none) : ∀ (d : Nat) (t : T) (p : T × List Nat), own σ d t = some p → own (σ.set x B) d t = some p ∧ x ∉ p.2
  | 0, t, p, h => by
    cases t with
    | row z n cs => cases z <;> cases n <;> cases cs <;> simp only [own] at h ⊢ <;> first | (cases h; done) | (injection h with h; subst h; exact ⟨rfl, by simp⟩)
    | _ => simp only [own] at h ⊢ <;> first | (cases h; done) | (injection h with h; subst h; exact ⟨rfl, by simp⟩)
  | d + 1, t, p, h => by
    cases t with
    | ref b e off n =>
      simp only [own] at h ⊢
      obtain ⟨C, h1, h2⟩ := Option.bind_eq_some_iff.1 h
      rw [blk_set' hx h1, Option.bind_some]
      split at h2
      · rename_i hc
        obtain ⟨q, h3, rfl⟩ := Option.map_eq_some_iff.1 h2
        obtain ⟨k1, k2⟩ := frzL_fm (own_fm hx d) h3
        rw [if_pos hc, k1]
        exact ⟨rfl, by simp only [List.mem_cons]; rintro (e | e); (subst e; rw [hx] at h1; cases h1); exact k2 e⟩
      · cases h2
    | agg cs =>
      simp only [own] at h ⊢
      obtain ⟨q, h3, rfl⟩ := Option.map_eq_some_iff.1 h
      obtain ⟨k1, k2⟩ := frzL_fm (own_fm hx d) h3
      rw [k1]; exact ⟨rfl, k2⟩
    | tup cs =>
      simp only [own] at h ⊢
      obtain ⟨q, h3, rfl⟩ := Option.map_eq_some_iff.1 h
      obtain ⟨k1, k2⟩ := frzL_fm (own_fm hx d) h3
      rw [k1]; exact ⟨rfl, k2⟩
    | row z n cs => cases z <;> cases n <;> cases cs <;> simp only [own] at h ⊢ <;> first | (cases h; done) | (injection h with h; subst h; exact ⟨rfl, by simp⟩)
    | _ => simp only [own] at h ⊢ <;> first | (cases h; done) | (injection h with h; subst h; exact ⟨rfl, by simp⟩)
theorem mark_set {σ : St} {x : Nat} {B : Blk} {S : List Nat} (h : x ∉ S) : (σ.set x B).mark S = (σ.mark S).set x B := by
  refine St.ext' rfl fun i => ?_
  show Option.map _ (if i = x then some B else σ.blk i) = if i = x then some B else Option.map _ (σ.blk i)
  by_cases e : i = x
  · subst e; rw [if_pos rfl, if_pos rfl]; simp [h]
  · rw [if_neg e, if_neg e]
theorem mark_none {σ : St} {x : Nat} {S : List Nat} (h : σ.blk x = none) : (σ.mark S).blk x = none := by simp [St.mark, h]
theorem bump_set {σ : St} {x : Nat} {B : Blk} {n : Nat} (hl : x < σ.next) : (σ.set x B).bump n = (σ.bump n).set x B := by
  refine St.ext' rfl fun i => ?_
  show (if i < σ.next then (if i = x then some B else σ.blk i) else none) = if i = x then some B else (if i < σ.next then σ.blk i else none)
  by_cases e : i = x
  · subst e; rw [if_pos hl, if_pos rfl, if_pos rfl]
  · rw [if_neg e, if_neg e]
theorem keep_set {σ σ2 : St} {x : Nat} {B : Blk} {K : List Nat} (hl : x < σ.next) : (σ.set x B).keep (σ2.set x B) K = (σ.keep σ2 K).set x B := by
  refine St.ext' rfl fun i => ?_
  show (if i < σ.next then (if i = x then some B else σ.blk i) else if i ∈ K then (if i = x then some B else σ2.blk i) else none) = if i = x then some B else (if i < σ.next then σ.blk i else if i ∈ K then σ2.blk i else none)
  by_cases e : i = x
  · subst e; rw [if_pos hl, if_pos rfl, if_pos rfl]
  · rw [if_neg e, if_neg e, if_neg e]
def Fr.sx (x : Nat) (B : Blk) (fr : Fr) : Fr := ⟨fr.s, fr.σ.set x B⟩
theorem put_sx {fr : Fr} {x : Nat} {B : Blk} {d : Option Nat} {v : T} {σ : St} : (fr.put d v σ).sx x B = (fr.sx x B).put d v (σ.set x B) := by cases d <;> rfl
theorem put_st {fr : Fr} {d : Option Nat} {v : T} {σ : St} : (fr.put d v σ).σ = σ := by cases d <;> rfl
section
variable {P : Program} {vm : Nat → Md} {X : Ext}
theorem resL_fm {fr : Fr} {x : Nat} {B : Blk} (hx : fr.σ.blk x = none) : ∀ {rs : List ResultVar} {l : List T}, resL P fr rs = some l → resL P (fr.sx x B) rs = some l
  | [], l, h => h
  | r :: rs, l, h => by
    simp only [resL] at h ⊢
    obtain ⟨v, h1, h2⟩ := Option.bind_eq_some_iff.1 h
    obtain ⟨l', h3, rfl⟩ := Option.map_eq_some_iff.1 h2
    have k1 : resV P (fr.sx x B) r = some v := by
      cases r with
      | tmp t => exact h1
      | cell a t => obtain ⟨v', e1, rfl⟩ := loadA_fm (P := P) (B := B) hx v h1; exact e1
    rw [k1, Option.bind_some, resL_fm hx h3]; rfl
theorem aOp_val {k : Option Nat} {fr : Fr} {x : Nat} {B : Blk} {o : Oper} {v : T} {σ : St} (hk : k ≠ some x) (hx : fr.σ.blk x = none) (hl : x < fr.σ.next) (h : aOp P k fr o = some (.val v σ)) : aOp P k (fr.sx x B) o = some (.val v (σ.set x B)) ∧ σ.blk x = none ∧ x < σ.next := by
  obtain ⟨r, h1, h2⟩ := aOp_fm (P := P) (B := B) hx hl hk (s := fr.s) _ h
  cases r with
  | val v' σ' => obtain ⟨rfl, rfl, h3⟩ := h2; exact ⟨h1, h3⟩
  | _ => exact h2.elim
theorem aOp_skip {k : Option Nat} {fr : Fr} {x : Nat} {B : Blk} {o : Oper} {σ : St} (hk : k ≠ some x) (hx : fr.σ.blk x = none) (hl : x < fr.σ.next) (h : aOp P k fr o = some (.skip σ)) : aOp P k (fr.sx x B) o = some (.skip (σ.set x B)) ∧ σ.blk x = none ∧ x < σ.next := by
  obtain ⟨r, h1, h2⟩ := aOp_fm (P := P) (B := B) hx hl hk (s := fr.s) _ h
  cases r with
  | skip σ' => obtain ⟨rfl, h3⟩ := h2; exact ⟨h1, h3⟩
  | _ => exact h2.elim
theorem aOp_call {k : Option Nat} {fr : Fr} {x : Nat} {B : Blk} {o : Oper} {f : Nat} {as : List T} (hk : k ≠ some x) (hx : fr.σ.blk x = none) (hl : x < fr.σ.next) (h : aOp P k fr o = some (.call f as)) : aOp P k (fr.sx x B) o = some (.call f as) := by
  obtain ⟨r, h1, h2⟩ := aOp_fm (P := P) (B := B) hx hl hk (s := fr.s) _ h
  cases r with
  | call f' as' => obtain ⟨rfl, rfl⟩ := h2; exact h1
  | _ => exact h2.elim
def XOk (X : Ext) : Prop := ∀ f g, X f = some g → ∀ args σ r σ', g args σ = some (r, σ') → σ' = σ ∧ ∀ σ2, g args σ2 = some (r, σ2)
mutual
theorem EvCall.fm (hX : XOk X) {x : Nat} {B : Blk} {f : Nat} {args : List T} {σ σ' : St} {r : T} : EvCall P vm X f args σ r σ' → σ.blk x = none → x < σ.next → EvCall P vm X f args (σ.set x B) r (σ'.set x B) ∧ σ'.blk x = none ∧ x < σ'.next
  | .mk (fn := fn) (fr := fr) h1 h2 h3 h4 h5 h6 hc he hr, hx, hl => by
    obtain ⟨k, k1, k2⟩ := EvC.fm hX (B := B) hc hx hl
    refine ⟨.mk (fr := fr.sx x B) h1 h2 h3 h4 h5 h6 k he ?_, k1, k2⟩
    unfold resA at hr ⊢
    obtain ⟨l, e1, rfl⟩ := Option.map_eq_some_iff.1 hr
    rw [resL_fm k1 e1]; rfl
  | .ext h1 h2, hx, hl => by
    obtain ⟨rfl, h3⟩ := hX _ _ h1 _ _ _ _ h2
    exact ⟨.ext h1 (h3 _), hx, hl⟩
theorem EvP.fm (hX : XOk X) {x : Nat} {B : Blk} {f : Nat} {args : List T} {σ σ' : St} {r : T} : EvP P vm X f args σ r σ' → σ.blk x = none → x < σ.next → EvP P vm X f args (σ.set x B) r (σ'.set x B) ∧ σ'.blk x = none ∧ x < σ'.next
  | .raw h1 h2, hx, hl => by
    obtain ⟨k, k1⟩ := EvCall.fm hX (B := B) h2 hx hl
    exact ⟨.raw h1 k, k1⟩
  | .view (D1 := D1) (D2 := D2) (args' := args') (S := S) (r := r0) (σ2 := σ2) (S2 := S2) h1 h2 h3 h4 h5 h6, hx, hl => by
    obtain ⟨a1, a2⟩ := frzL_fm (frz_fm (B := B) hx D1) h2
    obtain ⟨k, k1, k2⟩ := EvCall.fm hX (B := B) h3 (mark_none hx) hl
    obtain ⟨b1, b2⟩ := frz_fm (B := B) k1 D2 _ _ h4
    have e := EvP.view (D1 := D1) (D2 := D2) (S := S) h1 a1 (by rw [mark_set a2]; exact k) b1 h5 (fun i hi => by
      show (if i = x then some B else σ2.blk i) = _
      rw [mark_set a2]
      show _ = (if i = x then some B else (σ.mark S).blk i)
      by_cases e : i = x
      · rw [if_pos e, if_pos e]
      · rw [if_neg e, if_neg e]; exact h6 i hi)
    have hx2 : x ∉ S2.filter fun i => decide (i < σ.next) := fun hm => b2 (List.mem_filter.1 hm).1
    have e2 : (if leafT r = true then σ.set x B else ((σ.set x B).mark S).mark (S2.filter fun i => decide (i < (σ.set x B).next))) = (if leafT r = true then σ else (σ.mark S).mark (S2.filter fun i => decide (i < σ.next))).set x B := by
      split
      · rfl
      · rw [mark_set a2]; exact mark_set hx2
    rw [e2] at e
    refine ⟨e, ?_, ?_⟩
    · split
      · exact hx
      · exact mark_none (mark_none hx)
    · split <;> exact hl
  | .own (D1 := D1) (D2 := D2) (args' := args') (S := S) (σ2 := σ2) (K := K) h1 h2 h3 h4 h5 h6, hx, hl => by
    obtain ⟨a1, a2⟩ := frzL_fm (frz_fm (B := B) hx D1) h2
    obtain ⟨k, k1, k2⟩ := EvCall.fm hX (B := B) h3 (mark_none hx) hl
    obtain ⟨b1, b2⟩ := own_fm (B := B) k1 D2 _ _ h4
    have e := EvP.own (D1 := D1) (D2 := D2) (S := S) h1 a1 (by rw [mark_set a2]; exact k) b1 h5 (fun i hi => by
      show (if i = x then some B else σ2.blk i) = _
      rw [mark_set a2]
      show _ = (if i = x then some B else (σ.mark S).blk i)
      by_cases e : i = x
      · rw [if_pos e, if_pos e]
      · rw [if_neg e, if_neg e]; exact h6 i hi)
    rw [keep_set hl] at e
    exact ⟨e, by simp only [St.keep]; rw [if_pos hl, hx], k2⟩
theorem EvO.fm (hX : XOk X) {x : Nat} {B : Blk} {ops : Array Oper} {k : Option Nat} (hk : k ≠ some x) {o : Oper} {fr fr' : Fr} : EvO P vm X ops k o fr fr' → fr.σ.blk x = none → x < fr.σ.next → EvO P vm X ops k o (fr.sx x B) (fr'.sx x B) ∧ fr'.σ.blk x = none ∧ x < fr'.σ.next
  | .skip h, hx, hl => by rw [put_sx, put_st]; exact ⟨.skip (fr := fr.sx x B) h, hx, hl⟩
  | .val h1 h2, hx, hl => by
    obtain ⟨a1, a2⟩ := aOp_val (B := B) hk hx hl h2
    rw [put_sx, put_st]; exact ⟨.val (fr := fr.sx x B) h1 a1, a2⟩
  | .nores h1 h2, hx, hl => by
    obtain ⟨a1, a2⟩ := aOp_skip (B := B) hk hx hl h2
    rw [put_sx, put_st]; exact ⟨.nores (fr := fr.sx x B) h1 a1, a2⟩
  | .call h1 h2 h3, hx, hl => by
    have a1 := aOp_call (B := B) hk hx hl h2
    obtain ⟨k1, k2⟩ := EvP.fm hX (B := B) h3 hx hl
    rw [put_sx, put_st]; exact ⟨.call (fr := fr.sx x B) h1 a1 k1, k2⟩
theorem EvI.fm (hX : XOk X) {x : Nat} {B : Blk} {ops : Array Oper} {b : Option Nat} (hb : ∀ i, b.map (· + i) ≠ some x) {l : List Nat} {fr fr' : Fr} : EvI P vm X ops b l fr fr' → fr.σ.blk x = none → x < fr.σ.next → EvI P vm X ops b l (fr.sx x B) (fr'.sx x B) ∧ fr'.σ.blk x = none ∧ x < fr'.σ.next
  | .nil, hx, hl => ⟨.nil, hx, hl⟩
  | .cons h1 h2 h3, hx, hl => by
    obtain ⟨k, k1, k2⟩ := EvO.fm hX (B := B) (hb _) h2 hx hl
    obtain ⟨m, m1⟩ := EvI.fm hX (B := B) hb h3 k1 k2
    exact ⟨.cons h1 k m, m1⟩
theorem EvC.fm (hX : XOk X) {x : Nat} {B : Blk} {c : Code} {fr fr' : Fr} {e : AExit} : EvC P vm X c fr e fr' → fr.σ.blk x = none → x < fr.σ.next → EvC P vm X c (fr.sx x B) e (fr'.sx x B) ∧ fr'.σ.blk x = none ∧ x < fr'.σ.next
  | .skip, hx, hl => ⟨.skip, hx, hl⟩
  | .region h, hx, hl => by
    obtain ⟨k, k1⟩ := EvI.fm hX (B := B) (fun i => by simp) h hx hl
    exact ⟨.region k, k1⟩
  | .draw h, hx, hl => by
    have hb : ∀ i, (some fr.σ.next).map (· + i) ≠ some x := fun i e => by simp at e; omega
    have key := fun t => EvI.fm hX (B := B) hb (h t) (by simp [St.bump, hx]) (by simp [St.bump]; omega)
    refine ⟨.draw fun t => ?_, (key default).2⟩
    have := (key t).1
    simp only [Fr.sx] at this ⊢
    rw [bump_set hl]; exact this
  | .seq h1 h2, hx, hl => by
    obtain ⟨k, k1, k2⟩ := EvC.fm hX (B := B) h1 hx hl
    obtain ⟨m, m1⟩ := EvC.fm hX (B := B) h2 k1 k2
    exact ⟨.seq k m, m1⟩
  | .seqX h1 h2, hx, hl => by
    obtain ⟨k, k1⟩ := EvC.fm hX (B := B) h1 hx hl
    exact ⟨.seqX k h2, k1⟩
  | .condT h1 h2, hx, hl => by
    obtain ⟨k, k1⟩ := EvC.fm hX (B := B) h2 hx hl
    exact ⟨.condT h1 k, k1⟩
  | .condF h1 h2, hx, hl => by
    obtain ⟨k, k1⟩ := EvC.fm hX (B := B) h2 hx hl
    exact ⟨.condF h1 k, k1⟩
  | .block h, hx, hl => by
    obtain ⟨k, k1⟩ := EvC.fm hX (B := B) h hx hl
    exact ⟨.block k, k1⟩
  | .loop h, hx, hl => by
    obtain ⟨k, k1⟩ := EvR.fm hX (B := B) h hx hl
    exact ⟨.loop k, k1⟩
  | .exit, hx, hl => ⟨.exit, hx, hl⟩
  | .ret, hx, hl => ⟨.ret, hx, hl⟩
theorem EvR.fm (hX : XOk X) {x : Nat} {B : Blk} {c : Code} {n : Nat} {fr fr' : Fr} {e : AExit} : EvR P vm X c n fr e fr' → fr.σ.blk x = none → x < fr.σ.next → EvR P vm X c n (fr.sx x B) e (fr'.sx x B) ∧ fr'.σ.blk x = none ∧ x < fr'.σ.next
  | .go h1 h2, hx, hl => by
    obtain ⟨k, k1, k2⟩ := EvC.fm hX (B := B) h1 hx hl
    obtain ⟨m, m1⟩ := EvR.fm hX (B := B) h2 k1 k2
    exact ⟨.go k m, m1⟩
  | .stop h1 h2, hx, hl => by
    obtain ⟨k, k1⟩ := EvC.fm hX (B := B) h1 hx hl
    exact ⟨.stop k h2, k1⟩
end
theorem run_fm (hX : XOk X) {x : Nat} {B : Blk} {f : Nat} {args : List T} {σ σ' : St} {r : T} (h : run P vm X f args σ = some (r, σ')) (hx : σ.blk x = none) (hl : x < σ.next) : run P vm X f args (σ.set x B) = some (r, σ'.set x B) ∧ σ'.blk x = none ∧ x < σ'.next := by
  obtain ⟨k, k1⟩ := EvP.fm hX (B := B) (run_iff.1 h) hx hl
  exact ⟨run_iff.2 k, k1⟩
end
end Go.Am
end
section
set_option linter.unusedVariables false
set_option linter.unusedSimpArgs false
namespace Go.Am
section
variable (P : Program) (k : Option Nat) (fr : Fr) (d : Option Nat) (ty : TypeId) (ps : String) (af : Array Edge) (g : Option (Nat × Bool))
@[simp] theorem a_move (x : Operand) : aOp P k fr ⟨d, .move x, ty, ps, af, g⟩ = (evalO fr.s x).map fun x => .val x fr.σ := (rfl)
@[simp] theorem a_assign (x : Operand) : aOp P k fr ⟨d, .assign x, ty, ps, af, g⟩ = (evalO fr.s x).map fun x => .val x fr.σ := (rfl)
def pickA (s : Nat → T) (σ : St) (a b : Operand) : T → Option ARes
  | .bool true => (evalO s a).map fun x => .val x σ
  | .bool false => (evalO s b).map fun x => .val x σ
  | _ => none
@[simp] theorem a_pick (c a b : Operand) : aOp P k fr ⟨d, .pick c a b, ty, ps, af, g⟩ = (evalO fr.s c).bind (pickA fr.s fr.σ a b) := (rfl)
@[simp] theorem pickA_bool (s : Nat → T) (σ : St) (a b : Operand) (c : Bool) : pickA s σ a b (.bool c) = bif c then (evalO s a).map (fun x => .val x σ) else (evalO s b).map (fun x => .val x σ) := by cases c <;> rfl
def allocA (k : Option Nat) (σ : St) (z : List T) : Option ARes := if σ.okK k = true then some (.val (.ptr (σ.nid k) 0 0 z.length) (σ.pushK k (mkBlk z z.length))) else none
@[simp] theorem a_alloc (t : TypeId) : aOp P k fr ⟨d, .alloc t, ty, ps, af, g⟩ = (zeroOf P t).bind (allocA k fr.σ) := (rfl)
@[simp] theorem allocA_none (σ : St) (z : List T) : allocA none σ z = some (.val (.ptr σ.next 0 0 z.length) (σ.pushK none (mkBlk z z.length))) := by simp [allocA]
def boxA (k : Option Nat) (σ : St) (x : T) : Option ARes := if x.cells.all T.one = true ∧ σ.okK k = true then some (.val (.ptr (σ.nid k) 0 0 x.cells.length) (σ.pushK k (mkBlk x.cells x.cells.length))) else none
@[simp] theorem a_box (t : TypeId) (x : Operand) : aOp P k fr ⟨d, .box t x, ty, ps, af, g⟩ = (evalO fr.s x).bind (boxA k fr.σ) := (rfl)
@[simp] theorem boxA_none (σ : St) (x : T) : boxA none σ x = if x.cells.all T.one = true then some (.val (.ptr σ.next 0 0 x.cells.length) (σ.pushK none (mkBlk x.cells x.cells.length))) else none := by simp [boxA]
def buildA (P : Program) (t : TypeId) (σ : St) (z : List T) (ps : List (Nat × T)) : Option ARes :=
  if kindT P t = 7 ∧ (fieldsT P t).all (fun f => (szOf P f.type).isSome) = true then ((fillA (fun i => (fieldOf P t i).map fun (o, _, n) => (o, n)) z ps).map .agg).map fun x => .val x σ else none
@[simp] theorem a_build (t : TypeId) (parts : Array (Nat × Operand)) : aOp P k fr ⟨d, .build t parts, ty, ps, af, g⟩ = (zeroOf P t).bind fun z => (evalPs fr.s parts.toList).bind fun ps => buildA P t fr.σ z ps := (rfl)
@[simp] theorem fillA_nil (place : Nat → Option (Nat × Nat)) (cells : List T) : fillA place cells [] = some cells := (rfl)
def fill1 (place : Nat → Option (Nat × Nat)) (cells : List T) (v : T) (rest : List (Nat × T)) (p : Nat × Nat) : Option (List T) :=
  if v.cells.length = p.2 ∧ p.1 + p.2 ≤ cells.length ∧ v.cells.all T.one = true then fillA place (splice cells p.1 v.cells) rest else none
@[simp] theorem fillA_cons (place : Nat → Option (Nat × Nat)) (cells : List T) (i : Nat) (v : T) (rest : List (Nat × T)) : fillA place cells ((i, v) :: rest) = (place i).bind (fill1 place cells v rest) := (rfl)
@[simp] theorem fill1_eq (place : Nat → Option (Nat × Nat)) (cells : List T) (v : T) (rest : List (Nat × T)) (o n : Nat) : fill1 place cells v rest (o, n) = if v.cells.length = n ∧ o + n ≤ cells.length ∧ v.cells.all T.one = true then fillA place (splice cells o v.cells) rest else none := (rfl)
@[simp] theorem splice_eq (cs : List T) (off : Nat) (vs : List T) : splice cs off vs = cs.take off ++ vs ++ cs.drop (off + vs.length) := (rfl)
@[simp] theorem cells_agg (cs : List T) : (T.agg cs).cells = cs := (rfl)
@[simp] theorem cells_int (k : IntKind) (n : Int) : (T.int k n).cells = [.int k n] := (rfl)
@[simp] theorem cells_bool (b : Bool) : (T.bool b).cells = [.bool b] := (rfl)
@[simp] theorem cells_str (s : ByteArray) : (T.str s).cells = [.str s] := (rfl)
@[simp] theorem cells_nilp : T.nilp.cells = [.nilp] := (rfl)
@[simp] theorem cells_nilf : T.nilf.cells = [.nilf] := (rfl)
@[simp] theorem cells_ptr (b e o m : Nat) : (T.ptr b e o m).cells = [.ptr b e o m] := (rfl)
@[simp] theorem cells_vw (cs : List T) : (T.vw cs).cells = [.vw cs] := (rfl)
@[simp] theorem cells_row (z : Bool) (n : Nat) (cs : List T) : (T.row z n cs).cells = [.row z n cs] := (rfl)
@[simp] theorem cells_emp : T.emp.cells = [.emp] := (rfl)
@[simp] theorem cells_ref (b e o n : Nat) : (T.ref b e o n).cells = [.ref b e o n] := (rfl)
@[simp] theorem cells_fn (f : Nat) (a b : List T) : (T.fn f a b).cells = [.fn f a b] := (rfl)
@[simp] theorem one_agg (cs : List T) : (T.agg cs).one = false := (rfl)
@[simp] theorem one_int (k : IntKind) (n : Int) : (T.int k n).one = true := (rfl)
@[simp] theorem one_bool (b : Bool) : (T.bool b).one = true := (rfl)
@[simp] theorem one_str (s : ByteArray) : (T.str s).one = true := (rfl)
@[simp] theorem one_nilp : T.nilp.one = true := (rfl)
@[simp] theorem one_nilf : T.nilf.one = true := (rfl)
@[simp] theorem one_ptr (b e o m : Nat) : (T.ptr b e o m).one = true := (rfl)
@[simp] theorem one_vw (cs : List T) : (T.vw cs).one = true := (rfl)
@[simp] theorem one_row (z : Bool) (n : Nat) (cs : List T) : (T.row z n cs).one = true := (rfl)
@[simp] theorem one_emp : T.emp.one = true := (rfl)
@[simp] theorem one_ref (b e o n : Nat) : (T.ref b e o n).one = true := (rfl)
@[simp] theorem one_fn (f : Nat) (a b : List T) : (T.fn f a b).one = true := (rfl)
@[simp] theorem mkBlk_cells (cs : List T) (n : Nat) : (mkBlk cs n).cells = cs := (rfl)
@[simp] theorem mkBlk_esz (cs : List T) (n : Nat) : (mkBlk cs n).esz = n := (rfl)
@[simp] theorem mkBlk_ep (cs : List T) (n : Nat) : (mkBlk cs n).ep = 0 := (rfl)
@[simp] theorem mkBlk_low (cs : List T) (n : Nat) : (mkBlk cs n).low = 0 := (rfl)
@[simp] theorem mkBlk_st (cs : List T) (n : Nat) : (mkBlk cs n).st = true := (rfl)
@[simp] theorem a_load (t : TypeId) (a : Operand) : aOp P k fr ⟨d, .load t a, ty, ps, af, g⟩ = (evalO fr.s a).bind fun a => (loadA P fr.σ t a).map fun x => .val x fr.σ := (rfl)
@[simp] theorem loadA_vw (σ : St) (t : TypeId) (cs : List T) : loadA P σ t (.vw cs) = part P t cs 0 := (rfl)
@[simp] theorem loadA_ptr (σ : St) (t : TypeId) (b e off m : Nat) : loadA P σ t (.ptr b e off m) = (σ.blk b).bind fun B => if B.low ≤ e then part P t ((B.cells.drop off).take m) 0 else none := (rfl)
def partA (t : TypeId) (cs : List T) (off : Nat) : Bool → Option T
  | true => (szOf P t).bind fun n => if off + n ≤ cs.length then some (.agg ((cs.drop off).take n)) else none
  | false => cs[off]?
@[simp] theorem part_eq (t : TypeId) (cs : List T) (off : Nat) : part P t cs off = (aggOf P t).bind (partA P t cs off) := by
  unfold part
  congr 1
  funext a
  cases a <;> rfl
@[simp] theorem partA_true (t : TypeId) (cs : List T) (off : Nat) : partA P t cs off true = (szOf P t).bind fun n => if off + n ≤ cs.length then some (.agg ((cs.drop off).take n)) else none := (rfl)
@[simp] theorem partA_false (t : TypeId) (cs : List T) (off : Nat) : partA P t cs off false = cs[off]? := (rfl)
@[simp] theorem a_store (t : TypeId) (a x : Operand) : aOp P k fr ⟨d, .store t a x, ty, ps, af, g⟩ = (evalO fr.s a).bind fun a => (evalO fr.s x).bind fun x => (storeA P fr.σ t a x).map .skip := (rfl)
@[simp] theorem storeA_ptr (σ : St) (t : TypeId) (b e off m : Nat) (v : T) : storeA P σ t (.ptr b e off m) v = (σ.blk b).bind fun B => (szOf P t).bind fun n =>
    if B.st = true ∧ e = B.ep ∧ v.cells.length = n ∧ n ≤ m ∧ off + n ≤ B.cells.length ∧ v.cells.all T.one = true then
      some (σ.set b { B with cells := splice B.cells off v.cells, low := B.ep, ver := B.ver + 1 }) else none := (rfl)
def nilC (σ : St) : T → Option ARes
  | .ptr b e o m => some (.val (.ptr b e o m) σ)
  | .vw cs => some (.val (.vw cs) σ)
  | .fn f a b => some (.val (.fn f a b) σ)
  | _ => none
@[simp] theorem a_nilCheck (x : Operand) : aOp P k fr ⟨d, .nilCheck x, ty, ps, af, g⟩ = (evalO fr.s x).bind (nilC fr.σ) := by
  cases h : evalO fr.s x with
  | none => simp [aOp, h]
  | some t => cases t <;> simp [aOp, h, nilC]
@[simp] theorem nilC_ptr (σ : St) (b e o m : Nat) : nilC σ (.ptr b e o m) = some (.val (.ptr b e o m) σ) := (rfl)
@[simp] theorem nilC_vw (σ : St) (cs : List T) : nilC σ (.vw cs) = some (.val (.vw cs) σ) := (rfl)
@[simp] theorem nilC_fn (σ : St) (f : Nat) (a b : List T) : nilC σ (.fn f a b) = some (.val (.fn f a b) σ) := (rfl)
@[simp] theorem a_binOp (op : BinOp) (t : TypeId) (x y : Operand) (u : TypeId) : aOp P k fr ⟨d, .binOp op t x y u, ty, ps, af, g⟩ = (evalO fr.s x).bind fun x => (evalO fr.s y).bind fun y => (binA P op t x y).map fun x => .val x fr.σ := (rfl)
@[simp] theorem binA_int (op : BinOp) (t : TypeId) (k : IntKind) (a b : Int) : binA P op t (.int k a) (.int k b) = intBin op k a b := by simp [binA]
@[simp] theorem binA_str (op : BinOp) (t : TypeId) (a b : ByteArray) : binA P op t (.str a) (.str b) = strBin op a b := (rfl)
@[simp] theorem binA_eql_bool (t : TypeId) (a b : Bool) : binA P .eql t (.bool a) (.bool b) = (eqA P t (.bool a) (.bool b)).map fun b => .bool b := (rfl)
@[simp] theorem binA_neq_bool (t : TypeId) (a b : Bool) : binA P .neq t (.bool a) (.bool b) = (eqA P t (.bool a) (.bool b)).map fun b => .bool (!b) := (rfl)
@[simp] theorem ib_add (k : IntKind) (a b : Int) : intBin .add k a b = some (.int k (k.wrap (a + b))) := (rfl)
@[simp] theorem ib_sub (k : IntKind) (a b : Int) : intBin .sub k a b = some (.int k (k.wrap (a - b))) := (rfl)
@[simp] theorem ib_mul (k : IntKind) (a b : Int) : intBin .mul k a b = some (.int k (k.wrap (a * b))) := (rfl)
@[simp] theorem ib_quo (k : IntKind) (a b : Int) : intBin .quo k a b = if b = 0 then none else some (.int k (k.wrap (a.tdiv b))) := (rfl)
@[simp] theorem ib_rem (k : IntKind) (a b : Int) : intBin .rem k a b = if b = 0 then none else some (.int k (a.tmod b)) := (rfl)
@[simp] theorem ib_eql (k : IntKind) (a b : Int) : intBin .eql k a b = some (.bool (decide (a = b))) := (rfl)
@[simp] theorem ib_neq (k : IntKind) (a b : Int) : intBin .neq k a b = some (.bool (!decide (a = b))) := (rfl)
@[simp] theorem ib_lss (k : IntKind) (a b : Int) : intBin .lss k a b = some (.bool (decide (a < b))) := (rfl)
@[simp] theorem ib_leq (k : IntKind) (a b : Int) : intBin .leq k a b = some (.bool (decide (a ≤ b))) := (rfl)
@[simp] theorem ib_gtr (k : IntKind) (a b : Int) : intBin .gtr k a b = some (.bool (decide (b < a))) := (rfl)
@[simp] theorem ib_geq (k : IntKind) (a b : Int) : intBin .geq k a b = some (.bool (decide (b ≤ a))) := (rfl)
@[simp] theorem sb_add (a b : ByteArray) : strBin .add a b = if a.size + b.size ≤ 9223372036854775807 then some (.str (a ++ b)) else none := (rfl)
@[simp] theorem sb_eql (a b : ByteArray) : strBin .eql a b = some (.bool (decide (a = b))) := (rfl)
@[simp] theorem sb_neq (a b : ByteArray) : strBin .neq a b = some (.bool (!decide (a = b))) := (rfl)
@[simp] theorem sb_lss (a b : ByteArray) : strBin .lss a b = some (.bool (Op.bytesLess a.toList b.toList)) := (rfl)
@[simp] theorem sb_leq (a b : ByteArray) : strBin .leq a b = some (.bool (Op.bytesLess a.toList b.toList || decide (a = b))) := (rfl)
@[simp] theorem sb_gtr (a b : ByteArray) : strBin .gtr a b = some (.bool (!(Op.bytesLess a.toList b.toList || decide (a = b)))) := (rfl)
@[simp] theorem sb_geq (a b : ByteArray) : strBin .geq a b = some (.bool (!Op.bytesLess a.toList b.toList)) := (rfl)
@[simp] theorem a_unOp (op : UnOp) (t : TypeId) (x : Operand) : aOp P k fr ⟨d, .unOp op t x, ty, ps, af, g⟩ = (evalO fr.s x).bind fun x => (unA op x).map fun x => .val x fr.σ := (rfl)
@[simp] theorem unA_neg (k : IntKind) (n : Int) : unA .neg (.int k n) = some (.int k (k.wrap (0 - n))) := (rfl)
@[simp] theorem unA_not (b : Bool) : unA .not (.bool b) = some (.bool !b) := (rfl)
@[simp] theorem a_convert (src dst : TypeId) (x : Operand) : aOp P k fr ⟨d, .convert src dst x, ty, ps, af, g⟩ = (evalO fr.s x).bind fun x => (convA P k fr.σ src dst x).map fun p => .val p.1 p.2 := (rfl)
def convI (σ : St) (n : Int) : Option TypeDesc → Option (T × St)
  | some (.int k) => some (.int k (k.wrap n), σ)
  | _ => none
@[simp] theorem convA_int (σ : St) (src dst : TypeId) (kk : IntKind) (n : Int) : convA P k σ src dst (.int kk n) = if isIntT P src = true then convI σ n (P.underlying dst) else none := by
  unfold convA
  simp only
  split <;> rfl
@[simp] theorem convI_int (σ : St) (n : Int) (k : IntKind) : convI σ n (some (.int k)) = some (.int k (k.wrap n), σ) := (rfl)
@[simp] theorem a_makeFunc (f : Nat) (first caps : Array Operand) : aOp P k fr ⟨d, .makeFunc (.func f) first caps, ty, ps, af, g⟩ = (evals fr.s first.toList).bind fun a => (evals fr.s caps.toList).bind fun b => some (.val (.fn f a b) fr.σ) := (rfl)
def fAddrA (σ : St) (x : T) (p : Nat × TypeId × Nat) : Option ARes :=
  if p.2.2 = 0 then none else
  match x with
  | .ptr b e o m => if p.1 + p.2.2 ≤ m then some (.val (.ptr b e (o + p.1) p.2.2) σ) else none
  | .vw cs => if p.1 + p.2.2 ≤ cs.length then some (.val (.vw (cs.drop p.1)) σ) else none
  | _ => none
@[simp] theorem a_fieldAddr (t : TypeId) (x : Operand) (f : Nat) : aOp P k fr ⟨d, .fieldAddr t x f, ty, ps, af, g⟩ = (evalO fr.s x).bind fun x => (fieldOf P t f).bind (fAddrA fr.σ x) := (rfl)
@[simp] theorem fAddrA_ptr (σ : St) (b e o m off : Nat) (t : TypeId) (n : Nat) : fAddrA σ (.ptr b e o m) (off, t, n) = if n = 0 then none else if off + n ≤ m then some (.val (.ptr b e (o + off) n) σ) else none := (rfl)
@[simp] theorem fAddrA_vw (σ : St) (cs : List T) (off : Nat) (t : TypeId) (n : Nat) : fAddrA σ (.vw cs) (off, t, n) = if n = 0 then none else if off + n ≤ cs.length then some (.val (.vw (cs.drop off)) σ) else none := (rfl)
def fieldA (P : Program) (σ : St) (x : T) (p : Nat × TypeId × Nat) : Option ARes :=
  match x with
  | .agg cs => (part P p.2.1 cs p.1).map fun x => .val x σ
  | _ => none
@[simp] theorem a_field (t : TypeId) (x : Operand) (f : Nat) : aOp P k fr ⟨d, .field t x f, ty, ps, af, g⟩ = (evalO fr.s x).bind fun x => (fieldOf P t f).bind (fieldA P fr.σ x) := (rfl)
@[simp] theorem fieldA_agg (σ : St) (cs : List T) (off : Nat) (t : TypeId) (n : Nat) : fieldA P σ (.agg cs) (off, t, n) = (part P t cs off).map fun x => .val x σ := (rfl)
@[simp] theorem a_indexAddr (t : TypeId) (x i : Operand) : aOp P k fr ⟨d, .indexAddr t x i, ty, ps, af, g⟩ = (evalO fr.s x).bind fun x => (evalO fr.s i).bind fun i => (idxAddrA P fr.σ t x i).map fun x => .val x fr.σ := (rfl)
@[simp] theorem iA_row (σ : St) (t : TypeId) (z : Bool) (n : Nat) (cs : List T) (kk : IntKind) (j : Int) : idxAddrA P σ t (.row z n cs) (.int kk j) = (elemOfSl P t).bind fun e => (szOf P e).bind fun sz => if 0 ≤ j ∧ j < n ∧ cs.length = n * sz then some (.vw (cs.drop (j.toNat * sz))) else none := (rfl)
@[simp] theorem iA_ref (σ : St) (t : TypeId) (b ep off n : Nat) (kk : IntKind) (j : Int) : idxAddrA P σ t (.ref b ep off n) (.int kk j) = (elemOfSl P t).bind fun e => (szOf P e).bind fun sz => (σ.blk b).bind fun B => if 0 ≤ j ∧ j < n ∧ B.esz = sz then some (.ptr b ep (off + j.toNat * sz) sz) else none := (rfl)
@[simp] theorem a_index (t : TypeId) (x i : Operand) : aOp P k fr ⟨d, .index t x i, ty, ps, af, g⟩ = (evalO fr.s x).bind fun x => (evalO fr.s i).bind fun i => (indexA P t x i).map fun x => .val x fr.σ := (rfl)
@[simp] theorem a_extract (x : Operand) (i : Nat) : aOp P k fr ⟨d, .extract x i, ty, ps, af, g⟩ = (evalO fr.s x).bind fun x => aOp P none ⟨fun _ => x, fr.σ⟩ ⟨none, .extract (.tmp 0) i, 0, "", #[], none⟩ := by
  cases h : evalO fr.s x with
  | none => simp [aOp, h]
  | some v => simp [aOp, h]
@[simp] theorem a_extract_tup (cs : List T) (i : Nat) (σ : St) : aOp P none ⟨fun _ => .tup cs, σ⟩ ⟨none, .extract (.tmp 0) i, 0, "", #[], none⟩ = (cs[i]?).map fun x => .val x σ := (rfl)
def lenR (P : Program) (σ : St) : List T → List TypeId → Option ARes
  | [x], [t] => (lenA P σ t x).map fun x => .val x σ
  | _, _ => none
@[simp] theorem lenR_eq (σ : St) (x : T) (t : TypeId) : lenR P σ [x] [t] = (lenA P σ t x).map fun x => .val x σ := (rfl)
@[simp] theorem a_len (args : Array Operand) (ts : Array TypeId) : aOp P k fr ⟨d, .call ⟨.builtin .len, args, ts⟩, ty, ps, af, g⟩ = (evals fr.s args.toList).bind fun as => lenR P fr.σ as ts.toList := by
  unfold aOp
  simp only
  congr 1
@[simp] theorem lenA_row (σ : St) (t : TypeId) (z : Bool) (n : Nat) (cs : List T) : lenA P σ t (.row z n cs) = if kindT P t = 4 then some (.int .i64 n) else none := (rfl)
@[simp] theorem lenA_ref (σ : St) (t : TypeId) (b e o n : Nat) : lenA P σ t (.ref b e o n) = if kindT P t = 4 then some (.int .i64 n) else none := (rfl)
@[simp] theorem lenA_emp (σ : St) (t : TypeId) : lenA P σ t .emp = if kindT P t = 4 then some (.int .i64 0) else none := (rfl)
@[simp] theorem lenA_str (σ : St) (t : TypeId) (s : ByteArray) : lenA P σ t (.str s) = if kindT P t = 3 then some (.int .i64 s.size) else none := (rfl)
def appR (P : Program) (k : Option Nat) (σ : St) : List T → List TypeId → Option ARes
  | [x, y], [t, t2] => (appendA P k σ t t2 x y).map fun p => .val p.1 p.2
  | _, _ => none
@[simp] theorem appR_eq (σ : St) (x y : T) (t t2 : TypeId) : appR P k σ [x, y] [t, t2] = (appendA P k σ t t2 x y).map fun p => .val p.1 p.2 := (rfl)
@[simp] theorem a_append (args : Array Operand) (ts : Array TypeId) : aOp P k fr ⟨d, .call ⟨.builtin .append, args, ts⟩, ty, ps, af, g⟩ = (evals fr.s args.toList).bind fun as => appR P k fr.σ as ts.toList := by
  unfold aOp
  simp only
  congr 1
def callR (σ : St) (args : List T) : T → Option ARes
  | .fn f first caps => some (.call f (first ++ args ++ caps))
  | _ => none
@[simp] theorem callR_fn (σ : St) (args : List T) (f : Nat) (a b : List T) : callR σ args (.fn f a b) = some (.call f (a ++ args ++ b)) := (rfl)
@[simp] theorem a_call (f : Operand) (args : Array Operand) (ts : Array TypeId) : aOp P k fr ⟨d, .call ⟨.value f, args, ts⟩, ty, ps, af, g⟩ = (evals fr.s args.toList).bind fun as => (evalO fr.s f).bind (callR fr.σ as) := by
  unfold aOp
  simp only
  congr 1
def minR (σ : St) : List T → Option ARes
  | [.int k x, .int _ y] => some (.val (.int k (if y < x then y else x)) σ)
  | _ => none
def maxR (σ : St) : List T → Option ARes
  | [.int k x, .int _ y] => some (.val (.int k (if x < y then y else x)) σ)
  | _ => none
@[simp] theorem minR_eq (σ : St) (k k' : IntKind) (x y : Int) : minR σ [.int k x, .int k' y] = some (.val (.int k (if y < x then y else x)) σ) := (rfl)
@[simp] theorem maxR_eq (σ : St) (k k' : IntKind) (x y : Int) : maxR σ [.int k x, .int k' y] = some (.val (.int k (if x < y then y else x)) σ) := (rfl)
@[simp] theorem a_min (args : Array Operand) (ts : Array TypeId) : aOp P k fr ⟨d, .call ⟨.builtin .min, args, ts⟩, ty, ps, af, g⟩ = (evals fr.s args.toList).bind (minR fr.σ) := by
  unfold aOp
  simp only
  congr 1
@[simp] theorem a_max (args : Array Operand) (ts : Array TypeId) : aOp P k fr ⟨d, .call ⟨.builtin .max, args, ts⟩, ty, ps, af, g⟩ = (evals fr.s args.toList).bind (maxR fr.σ) := by
  unfold aOp
  simp only
  congr 1
def mkSlA (P : Program) (k : Option Nat) (σ : St) (t : TypeId) (l c : T) : Option ARes :=
  match l, c with
  | .int _ l, .int _ c => (elemOfSl P t).bind fun e => (szOf P e).bind fun sz => (bytesOf P e).bind fun by_ => (zeroOf P e).bind fun z =>
      if 0 ≤ l ∧ l ≤ c ∧ c * by_ ≤ 2 ^ 40 ∧ c ≤ 2 ^ 40 ∧ z.length = sz ∧ sz ≠ 0 ∧ σ.okK k = true then
        some (.val (if l = 0 ∧ c = 0 then .emp else .ref (σ.nid k) 0 0 l.toNat) (σ.pushK k (mkBlk ((List.replicate l.toNat z).flatten) sz))) else none
  | _, _ => none
@[simp] theorem a_makeSlice (t : TypeId) (l c : Operand) : aOp P k fr ⟨d, .makeSlice t l c, ty, ps, af, g⟩ = (evalO fr.s l).bind fun l => (evalO fr.s c).bind fun c => mkSlA P k fr.σ t l c := (rfl)
@[simp] theorem mkSlA_int (σ : St) (t : TypeId) (k1 k2 : IntKind) (l c : Int) : mkSlA P k σ t (.int k1 l) (.int k2 c) = (elemOfSl P t).bind fun e => (szOf P e).bind fun sz => (bytesOf P e).bind fun by_ => (zeroOf P e).bind fun z =>
      if 0 ≤ l ∧ l ≤ c ∧ c * by_ ≤ 2 ^ 40 ∧ c ≤ 2 ^ 40 ∧ z.length = sz ∧ sz ≠ 0 ∧ σ.okK k = true then
        some (.val (if l = 0 ∧ c = 0 then .emp else .ref (σ.nid k) 0 0 l.toNat) (σ.pushK k (mkBlk ((List.replicate l.toNat z).flatten) sz))) else none := (rfl)
def bldSlA (P : Program) (k : Option Nat) (σ : St) (len sz : Nat) (z : List T) (ps : List (Nat × T)) : Option ARes :=
  if z.length = sz ∧ len * sz ≤ 2 ^ 24 ∧ sz ≠ 0 ∧ σ.okK k = true then (fillA (fun i => some (i * sz, sz)) ((List.replicate len z).flatten) ps).map fun cs => .val (if len = 0 then .emp else .ref (σ.nid k) 0 0 len) (σ.pushK k (mkBlk cs sz)) else none
@[simp] theorem a_buildSlice (t : TypeId) (len : Nat) (parts : Array (Nat × Operand)) : aOp P k fr ⟨d, .buildSlice t len parts, ty, ps, af, g⟩ = (elemOfSl P t).bind fun e => (szOf P e).bind fun sz => (zeroOf P e).bind fun z => (evalPs fr.s parts.toList).bind fun ps => bldSlA P k fr.σ len sz z ps := (rfl)
@[simp] theorem bldSlA_eq (σ : St) (len sz : Nat) (z : List T) (ps : List (Nat × T)) : bldSlA P k σ len sz z ps = if z.length = sz ∧ len * sz ≤ 2 ^ 24 ∧ sz ≠ 0 ∧ σ.okK k = true then (fillA (fun i => some (i * sz, sz)) ((List.replicate len z).flatten) ps).map fun cs => .val (if len = 0 then .emp else .ref (σ.nid k) 0 0 len) (σ.pushK k (mkBlk cs sz)) else none := (rfl)
def slcR (P : Program) (σ : St) (t : TypeId) (x : T) (lo hi mx : Option T) : Option ARes := if okO lo && okO hi && okO mx then (sliceA P σ t x lo hi mx).map fun x => .val x σ else none
@[simp] theorem a_slice (t : TypeId) (x : Operand) (lo hi mx : Option Operand) : aOp P k fr ⟨d, .slice t x lo hi mx, ty, ps, af, g⟩ = (evalO fr.s x).bind fun x => (evalOpt fr.s lo).bind fun lo => (evalOpt fr.s hi).bind fun hi => (evalOpt fr.s mx).bind fun mx => slcR P fr.σ t x lo hi mx := (rfl)
@[simp] theorem evalOpt_none (s : Nat → T) : evalOpt s none = some none := (rfl)
@[simp] theorem evalOpt_some (s : Nat → T) (x : Operand) : evalOpt s (some x) = (evalO s x).map some := (rfl)
@[simp] theorem okO_none : okO none = true := (rfl)
@[simp] theorem okO_int (k : IntKind) (n : Int) : okO (some (.int k n)) = true := (rfl)
@[simp] theorem slcR_eq (σ : St) (t : TypeId) (x : T) (lo hi mx : Option T) : slcR P σ t x lo hi mx = if okO lo && okO hi && okO mx then (sliceA P σ t x lo hi mx).map fun x => .val x σ else none := (rfl)
@[simp] theorem boundA_none (n : Nat) : boundA none n = some n := (rfl)
@[simp] theorem boundA_int (k : IntKind) (i : Int) (n : Nat) : boundA (some (.int k i)) n = if 0 ≤ i then some i.toNat else none := (rfl)
@[simp] theorem sliceA_str (σ : St) (t : TypeId) (s : ByteArray) (lo hi : Option T) : sliceA P σ t (.str s) lo hi none = if kindT P t = 3 then (boundA hi s.size).bind fun h => (boundA lo 0).bind fun l => if l ≤ h ∧ h ≤ s.size then some (.str (s.extract l h)) else none else none := (rfl)
@[simp] theorem sliceA_row (σ : St) (t : TypeId) (z : Bool) (n : Nat) (cs : List T) (lo hi : Option T) : sliceA P σ t (.row z n cs) lo hi none = (elemOfSl P t).bind fun e => (szOf P e).bind fun sz => (boundA hi n).bind fun h => (boundA lo 0).bind fun l => if l ≤ h ∧ h ≤ n ∧ cs.length = n * sz then some (.row z (h - l) ((cs.drop (l * sz)).take ((h - l) * sz))) else none := (rfl)
@[simp] theorem sliceA_ref (σ : St) (t : TypeId) (b ep off n : Nat) (lo hi : Option T) : sliceA P σ t (.ref b ep off n) lo hi none = (elemOfSl P t).bind fun e => (szOf P e).bind fun sz => (σ.blk b).bind fun B => (boundA hi n).bind fun h => (boundA lo 0).bind fun l => if l ≤ h ∧ h ≤ n ∧ B.esz = sz ∧ B.low ≤ ep ∧ sz ≠ 0 then some (.ref b ep (off + l * sz) (h - l)) else none := (rfl)
@[simp] theorem wanted_none (ops : Array Oper) (o : Op) (s : Nat → T) : wantedA ops ⟨d, o, ty, ps, af, none⟩ s = true := (rfl)
def wantB (want : Bool) : T → Bool
  | .bool b => b == want
  | _ => false
def wantD (want : Bool) (s : Nat → T) : Option Nat → Bool
  | some d => wantB want (s d)
  | none => false
@[simp] theorem wanted_some (ops : Array Oper) (o : Op) (s : Nat → T) (j : Nat) (want : Bool) : wantedA ops ⟨d, o, ty, ps, af, some (j, want)⟩ s = wantD want s ((ops[j]?).bind (·.dst)) := by
  unfold wantedA
  simp only
  cases h : (ops[j]?).bind (·.dst) with
  | none => rfl
  | some d =>
    show (match s d with | .bool b => b == want | _ => false) = wantB want (s d)
    cases s d <;> rfl
@[simp] theorem wantD_some (want : Bool) (s : Nat → T) (d : Nat) : wantD want s (some d) = wantB want (s d) := (rfl)
@[simp] theorem wantB_bool (want b : Bool) : wantB want (.bool b) = (b == want) := (rfl)
end
end Go.Am
end
section
set_option linter.unusedVariables false
set_option linter.unusedSimpArgs false
namespace Go.Am
theorem frzL_leaf {f : T → Option (T × List Nat)} : ∀ {ts : List T}, (∀ t ∈ ts, f t = some (t, [])) → frzL f ts = some (ts, [])
  | [], _ => rfl
  | t :: ts, h => by
    have ih := frzL_leaf (f := f) (ts := ts) fun t ht => h t (by simp [ht])
    simp [frzL, h t (by simp), ih]
@[simp] theorem own_agg (σ : St) (d : Nat) (cs : List T) : own σ (d + 1) (.agg cs) = (frzL (own σ d) cs).map fun q => (.agg q.1, q.2) := (rfl)
@[simp] theorem own_tup (σ : St) (d : Nat) (cs : List T) : own σ (d + 1) (.tup cs) = (frzL (own σ d) cs).map fun q => (.tup q.1, q.2) := (rfl)
@[simp] theorem own_str' (σ : St) (d : Nat) (s : ByteArray) : own σ d (.str s) = some (.str s, []) := by cases d <;> rfl
@[simp] theorem own_int (σ : St) (d : Nat) (k : IntKind) (n : Int) : own σ d (.int k n) = some (.int k n, []) := by cases d <;> rfl
@[simp] theorem own_bool (σ : St) (d : Nat) (b : Bool) : own σ d (.bool b) = some (.bool b, []) := by cases d <;> rfl
@[simp] theorem own_nil (σ : St) (d : Nat) : own σ d (.row true 0 []) = some (.row true 0 [], []) := by cases d <;> rfl
@[simp] theorem frzL_nil (f : T → Option (T × List Nat)) : frzL f [] = some ([], []) := (rfl)
@[simp] theorem frzL_cons (f : T → Option (T × List Nat)) (t : T) (ts : List T) : frzL f (t :: ts) = (f t).bind fun p => (frzL f ts).map fun q => (p.1 :: q.1, p.2 ++ q.2) := (rfl)
end Go.Am
end
section
set_option linter.unusedVariables false
set_option linter.unusedSimpArgs false
namespace Go.Am
open Go.ChangeShapes Go.WideShapes Go.ChangeAt Go.RowKit
def envOf (w : World) : Env := ⟨fun a => w.cell? a, fun _ _ => none⟩
def St.empty : St := ⟨0, fun _ => none⟩
theorem rel_start (w : World) : Rel w.heap.size w (envOf w) St.empty w where
  bel := Below.refl _ w
  hB := Nat.le_refl _
  frz := fun a u h => h
  jlt := fun b e i h => by cases h
  jb := fun b e i h => by cases h
  inj := fun b e i b' e' i' h => by cases h
  dom := fun b B h => by cases h
  jep := fun b B e i h => by cases h
  blk := fun b B e h => by cases h
  nof := fun b B e i a u h => by cases h
def ShpF (P : Program) (S : TypeId → List T → Prop) : List TypeId → List T → Prop
  | [], ts => ts = []
  | t :: l, ts => ∃ a b, ts = a ++ b ∧ a.length = P.cellsOf t ∧ S t a ∧ ShpF P S l b
def Shp (P : Program) : Nat → TypeId → List T → Prop
  | 0, _, _ => False
  | d + 1, t, ts =>
    (kindT P t = 1 ∧ ∃ b, ts = [.bool b]) ∨
    (isIntT P t = true ∧ ∃ k n, P.underlying t = some (.int k) ∧ ts = [.int k n] ∧ (Lit.int k n).wf = true) ∨
    (kindT P t = 3 ∧ ∃ s, ts = [.str s] ∧ s.size ≤ maxLen) ∨
    (kindT P t = 4 ∧ ∃ e, elemOfSl P t = some e ∧ (ts = [.row true 0 []] ∨ ∃ els : List (List T), ts = [.row false els.length els.flatten] ∧ els.length ≤ maxLen ∧ ∀ el ∈ els, el.length = P.cellsOf e ∧ Shp P d e el)) ∨
    (kindT P t = 7 ∧ ShpF P (Shp P d) ((fieldsT P t).map (·.type)) ts)
def tiles (P : Program) : List Field → Nat → Nat → Bool
  | [], o, n => o == n
  | f :: fs, o, n => f.offset == o && tiles P fs (o + P.cellsOf f.type) n
def plainOk (P : Program) (S : List TypeId) : Bool := S.all fun t =>
  match P.underlying t with
  | some .bool | some (.int _) | some .string => true
  | some (.slice e) => S.contains e
  | some (.struct fs) => fs.toList.all (fun f => S.contains f.type) && tiles P fs.toList 0 (P.cellsOf t)
  | _ => false
theorem tiles_shp {P : Program} {w : World} {S : TypeId → List T → Prop} {cs : List Value} : ∀ (fs : List Field) (o : Nat), tiles P fs o cs.length = true → o ≤ cs.length →
    (∀ f ∈ fs, ∃ ts, VL (envOf w) ((cs.drop f.offset).take (P.cellsOf f.type)) ts ∧ S f.type ts) → ∃ ts, VL (envOf w) (cs.drop o) ts ∧ ShpF P S (fs.map (·.type)) ts
  | [], o, h, ho, _ => by
    simp only [tiles, beq_iff_eq] at h
    exact ⟨[], by rw [h, List.drop_length]; exact .nil _, rfl⟩
  | f :: fs, o, h, ho, hf => by
    simp only [tiles, Bool.and_eq_true, beq_iff_eq] at h
    obtain ⟨h1, h2⟩ := h
    have hle : ∀ (l : List Field) (o : Nat), tiles P l o cs.length = true → o ≤ cs.length := by
      intro l
      induction l with
      | nil => intro o h; simp only [tiles, beq_iff_eq] at h; omega
      | cons g l ih => intro o h; simp only [tiles, Bool.and_eq_true] at h; have := ih _ h.2; omega
    have ho2 := hle fs _ h2
    obtain ⟨a, ha1, ha2⟩ := hf f (by simp)
    obtain ⟨b, hb1, hb2⟩ := tiles_shp fs (o + P.cellsOf f.type) h2 ho2 (fun g hg => hf g (by simp [hg]))
    subst h1
    refine ⟨a ++ b, ?_, a, b, rfl, ?_, ha2, hb2⟩
    · have e : cs.drop f.offset = (cs.drop f.offset).take (P.cellsOf f.type) ++ cs.drop (f.offset + P.cellsOf f.type) := by
        rw [← List.drop_drop, List.take_append_drop]
      rw [e]; exact ha1.append hb1
    · rw [← ha1.1, List.length_take, List.length_drop]; exact Nat.min_eq_left (by omega)
section
variable {H : Type} {enc : TypeId × Value → H} {P : Program} {w : World} {base : Nat} {sp : Nat → Bool} {held : Bool}
theorem kt_bool {t : TypeId} (h : P.underlying t = some .bool) : kindT P t = 1 := by simp [kindT, h]
theorem kt_int {t : TypeId} {k : IntKind} (h : P.underlying t = some (.int k)) : isIntT P t = true := by cases k <;> simp [isIntT, kindT, h]
theorem kt_str {t : TypeId} (h : P.underlying t = some .string) : kindT P t = 3 := by simp [kindT, h]
theorem kt_slice {t e : TypeId} (h : P.underlying t = some (.slice e)) : kindT P t = 4 := by simp [kindT, h]
theorem kt_struct {t : TypeId} {fs : Array Field} (h : P.underlying t = some (.struct fs)) : kindT P t = 7 := by simp [kindT, h]
theorem add_add' (a : Addr) (m k : Nat) : (a.add m).add k = a.add (m + k) := by
  unfold Addr.add
  by_cases h1 : m = 0 <;> by_cases h2 : k = 0 <;> simp [h1, h2, Nat.add_assoc]
theorem VL.flatten {E : Env} {c : Nat → List Value} {t : Nat → List T} : ∀ (n : Nat), (∀ i, i < n → VL E (c i) (t i)) → VL E ((List.range n).map c).flatten ((List.range n).map t).flatten
  | 0, _ => .nil _
  | n + 1, h => by
    simp only [List.range_succ, List.map_append, List.map_cons, List.map_nil, List.flatten_append, List.flatten_cons, List.flatten_nil, List.append_nil]
    exact (VL.flatten n fun i hi => h i (by omega)).append (h n (by omega))
theorem cells_flatten {a : Addr} {sz : Nat} {c : Nat → List Value} : ∀ (n : Nat), (∀ i, i < n → (c i).length = sz ∧ ∀ k, k < sz → w.cell? ((a.add (i * sz)).add k) = (c i)[k]?) →
    (((List.range n).map c).flatten).length = n * sz ∧ ∀ j u, (((List.range n).map c).flatten)[j]? = some u → w.cell? (a.add j) = some u
  | 0, _ => ⟨by simp, fun j u h => by simp at h⟩
  | n + 1, h => by
    obtain ⟨h1, h2⟩ := cells_flatten n fun i hi => h i (by omega)
    obtain ⟨h3, h4⟩ := h n (by omega)
    simp only [List.range_succ, List.map_append, List.map_cons, List.map_nil, List.flatten_append, List.flatten_cons, List.flatten_nil, List.append_nil]
    refine ⟨by rw [List.length_append, h1, h3, Nat.succ_mul], fun j u hj => ?_⟩
    by_cases hlt : j < n * sz
    · rw [List.getElem?_append_left (by omega)] at hj
      exact h2 j u hj
    · rw [List.getElem?_append_right (by omega), h1] at hj
      have hk := (List.getElem?_eq_some_iff.1 hj).1
      have := h4 (j - n * sz) (by omega)
      rw [hj, add_add', show n * sz + (j - n * sz) = j by omega] at this
      exact this
theorem trod_shp {S : List TypeId} (hS : plainOk P S = true) : ∀ (fuel : Nat) (t : TypeId) (cs : List Value) (x : DataW H × List MemPlace), t ∈ S → DataW.trod enc P w base sp held fuel t cs = some x → ∃ ts, VL (envOf w) cs ts ∧ Shp P fuel t ts
  | 0, t, cs, x, _, h => by simp [DataW.trod] at h
  | fuel + 1, t, cs, x, ht, h => by
    have hS0 := List.all_eq_true.1 hS t ht
    unfold DataW.trod at h
    split at h
    · rename_i b hu
      exact ⟨[.bool b], .cons (.bool b) (.nil _), .inl ⟨kt_bool hu, b, rfl⟩⟩
    · rename_i k k' n hu
      split at h
      · rename_i hc
        obtain ⟨rfl, hw⟩ := hc
        exact ⟨[.int k' n], .cons (.int _ _) (.nil _), .inr (.inl ⟨kt_int hu, k', n, hu, rfl, hw⟩)⟩
      · cases h
    · rename_i hu; simp [hu] at hS0
    · rename_i s hu
      split at h
      · rename_i hc
        exact ⟨[.str s], .cons (.str s) (.nil _), .inr (.inr (.inl ⟨kt_str hu, s, rfl, hc⟩))⟩
      · cases h
    · rename_i hu; simp [hu] at hS0
    · rename_i hu; simp [hu] at hS0
    · rename_i e hu
      exact ⟨[.row true 0 []], .cons .rown (.nil _), .inr (.inr (.inr (.inl ⟨kt_slice hu, e, by simp [elemOfSl, hu], .inl rfl⟩)))⟩
    · rename_i e a len cap hu
      simp only at h
      split at h
      · rename_i hc
        obtain ⟨elems, h1, _⟩ := Option.bind_eq_some_iff.1 h
        have hlen := mapM_some_length h1
        have hget : ∀ i, i < len → ∃ ci ti, w.cells? base (a.add (i * P.cellsOf e)) (P.cellsOf e) = some ci ∧ VL (envOf w) ci ti ∧ Shp P fuel e ti := fun i hi => by
          have h2 := mapM_some_get h1 i i (by simp [hi])
          have hi' : i < elems.length := by rw [hlen]; simpa using hi
          rw [List.getElem?_eq_getElem hi'] at h2
          obtain ⟨ci, h3, h4⟩ := Option.bind_eq_some_iff.1 h2
          have hmem : e ∈ S := by simp [hu] at hS0; exact hS0
          obtain ⟨ti, h5, h6⟩ := trod_shp hS fuel e ci _ hmem h4
          exact ⟨ci, ti, h3, h5, h6⟩
        have hch : ∃ (c : Nat → List Value) (tt : Nat → List T), ∀ i, i < len → w.cells? base (a.add (i * P.cellsOf e)) (P.cellsOf e) = some (c i) ∧ VL (envOf w) (c i) (tt i) ∧ Shp P fuel e (tt i) := by
          have h0 : ∀ i, ∃ ci ti, i < len → (w.cells? base (a.add (i * P.cellsOf e)) (P.cellsOf e) = some ci ∧ VL (envOf w) ci ti ∧ Shp P fuel e ti) := fun i => by
            by_cases hi : i < len
            · obtain ⟨ci, ti, q⟩ := hget i hi; exact ⟨ci, ti, fun _ => q⟩
            · exact ⟨[], [], fun q => absurd q hi⟩
          exact ⟨fun i => Classical.choose (h0 i), fun i => Classical.choose (Classical.choose_spec (h0 i)), fun i hi => Classical.choose_spec (Classical.choose_spec (h0 i)) hi⟩
        obtain ⟨c, tt, hct⟩ := hch
        obtain ⟨hl1, hl2⟩ := cells_flatten (w := w) (a := a) (sz := P.cellsOf e) (c := c) len fun i hi => by
          obtain ⟨_, q1, q2⟩ := World.cells?_some (hct i hi).1
          exact ⟨q1, q2⟩
        have hv := VL.flatten len fun i hi => (hct i hi).2.1
        refine ⟨[.row false len ((List.range len).map tt).flatten], .cons (V.row_iff.2 (.inr ⟨rfl, a, cap, ((List.range len).map c).flatten, rfl, hc.2.1, hv, fun j u hj => hl2 j u hj⟩)) (.nil _), .inr (.inr (.inr (.inl ⟨kt_slice hu, e, by simp [elemOfSl, hu], .inr ⟨(List.range len).map tt, by simp, by simp; omega, fun el hel => ?_⟩⟩)))⟩
        obtain ⟨i, hi, rfl⟩ := List.mem_map.1 hel
        have hi' := List.mem_range.1 hi
        obtain ⟨_, q1, _⟩ := World.cells?_some (hct i hi').1
        exact ⟨by rw [← (hct i hi').2.1.1, q1], (hct i hi').2.2⟩
      · cases h
    · rename_i cs0 _ _ fs hu
      split at h
      · rename_i hc
        obtain ⟨xs, h1, _⟩ := Option.map_eq_some_iff.1 h
        simp only [hu, Bool.and_eq_true, List.all_eq_true] at hS0
        have hf : fieldsT P t = fs.toList := by simp [fieldsT, hu]
        obtain ⟨ts, k1, k2⟩ := tiles_shp (P := P) (w := w) (S := Shp P fuel) (cs := cs0) fs.toList 0 (by rw [hc]; exact hS0.2) (Nat.zero_le _) (fun f hf => by
          obtain ⟨i, hi, rfl⟩ := List.getElem_of_mem hf
          have h2 := mapM_some_get h1 i fs.toList[i] (by simp)
          have hi' : i < xs.length := by rw [mapM_some_length h1]; exact hi
          rw [List.getElem?_eq_getElem hi'] at h2
          have hmem := hS0.1 fs.toList[i] hf
          exact trod_shp hS fuel _ _ _ (by simpa using hmem) h2)
        exact ⟨ts, by simpa using k1, .inr (.inr (.inr (.inr ⟨kt_struct hu, by rw [hf]; exact k2⟩)))⟩
      · cases h
    all_goals first | (cases h; done) | (rename_i hu; simp [hu] at hS0; done)
theorem arg_struct {S : List TypeId} (hS : plainOk P S = true) {r : Reach} {b0 : Nat} {t : TypeId} {fs : Array Field} (ht : t ∈ S) (hu : P.underlying t = some (.struct fs)) {v : Value} {d : DataW H} {ps : List MemPlace} (hval : Value.okWide P w r b0 t v) (h : DataW.Trod enc P w base sp held t v d ps) :
    ∃ fuel ts, V (envOf w) v (.agg ts) ∧ Shp P fuel t ts := by
  obtain ⟨cs, rfl, _⟩ := okWide_struct hu hval
  obtain ⟨fuel, hf⟩ := h
  obtain ⟨ts, k1, k2⟩ := trod_shp hS fuel t _ _ ht hf
  exact ⟨fuel, ts, V.agg_iff.2 ⟨cs, rfl, k1⟩, k2⟩
theorem arg_cell {S : List TypeId} (hS : plainOk P S = true) {t : TypeId} (ht : t ∈ S) {v : Value} {d : DataW H} {ps : List MemPlace} (hv : v.cells.toList = [v]) (h : DataW.Trod enc P w base sp held t v d ps) :
    ∃ fuel x, V (envOf w) v x ∧ Shp P fuel t [x] := by
  obtain ⟨fuel, hf⟩ := h
  obtain ⟨ts, k1, k2⟩ := trod_shp hS fuel t _ _ ht hf
  rw [hv] at k1
  match ts, k1 with
  | [x], k1 => exact ⟨fuel, x, k1.head, k2⟩
  | [], k1 => have := k1.1; simp at this
  | _ :: _ :: _, k1 => have := k1.1; simp at this
end
section
variable {P : Program} {vm : Nat → Md} {X : Ext}
theorem soundP (hmix : P.follows .mixedOrders = true) (hX : ∀ f g args σ r σ', X f = some g → g args σ = some (r, σ') → SCall P f args σ r σ') {f args σ r σ'} (h : EvP P vm X f args σ r σ') : SCall P f args σ r σ' := by
  cases h with
  | raw _ h => exact sound hmix hX h
  | view _ h1 h2 h3 h4 h5 => exact scall_view h1 (sound hmix hX h2) h3 h4 h5
  | own _ h1 h2 h3 h4 h5 => exact scall_own h1 (sound hmix hX h2) h3 h4 h5
theorem V_bool {E : Env} {v : Value} {b : Bool} (h : V E v (.bool b)) : v = .bool b := by cases h; rfl
theorem calls_true (hmix : P.follows .mixedOrders = true) (hX : ∀ f g args σ r σ', X f = some g → g args σ = some (r, σ') → SCall P f args σ r σ') {f : Nat} {args : List T} {σ' : St} {w : World} {vs : List Value}
    (hi : Ini P w.heap.size w) (hE : Enter P f) (h : run P vm X f args St.empty = some (.bool true, σ')) (hv : VL (envOf w) vs args) : Calls P f vs.toArray w fun e w' => e = .returned (.bool true) ∧ Below w.heap.size w w' := by
  rcases soundP hmix hX (run_iff.1 h) w.heap.size ⟨w, hi⟩ (envOf w) w vs (rel_start w) hv with ⟨_, hc⟩ | ⟨v, w', hc, _⟩
  · refine hc.mono ?_
    rintro e w' ⟨v, rfl, E', _, k2, k3, _⟩
    rw [V_bool k3]
    exact ⟨rfl, k2.bel⟩
  · rw [callFunc_enter hE] at hc; cases hc
end
end Go.Am
end
