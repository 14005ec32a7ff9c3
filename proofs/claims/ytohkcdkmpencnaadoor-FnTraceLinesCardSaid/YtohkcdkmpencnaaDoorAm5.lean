/- The abstract machine. -/
import Derived.Test.YtohkcdkmpencnaaDoorAm4
import Derived.Laws.Externs
import Derived.Test.YtohkcdkmpencnaaDoorAm2
section
set_option linter.unusedVariables false
set_option linter.unusedSimpArgs false
namespace Go.Am
section
variable {P : Program} {O : Oracle} {ops : Array Oper} {l : List Oper} {K : Fr → Prop} {s : Nat → T} {σ σ0 : St} {L : List (Nat × T)} {es ents : List Ent}
variable {d : Option Nat} {ty : TypeId} {ps : String} {af : Array Edge} {g : Option (Nat × Bool)}
end
section
variable {P : Program} {md : Nat → Md} {X : Ext} {ops : Array Oper} {m : Mo} {l : List Oper} {K : Fr → Prop} {s : Nat → T} {σ σ0 : St} {L : List (Nat × T)} {es ents : List Ent} {f : Nat}
variable {d : Option Nat} {ty : TypeId} {ps : String} {af : Array Edge} {g : Option (Nat × Bool)}
theorem x_callX (hX : XOk X) (hm : m.chg = true) {o : Oper} {args : List T} {r : T} {σ' : St} (hwr : ∀ x, m.wr x ∨ σ'.blk x = σ.blk x) (hcl : isCall o.op = true) (hw : wantedA ops o s = true) (h : ∀ k σ, aOp P k ⟨s, σ⟩ o = some (.call f args)) (hc : run P md X f args σ = some (r, σ'))
    (kk : opsX P (run P md X) ops (nxM m) l K (Fr.put ⟨s, σ⟩ o.dst r σ')) : opsX P (run P md X) ops m (o :: l) K ⟨s, σ⟩ := by
  cases m with
  | q => show opQ P (run P md X) ops none o (opsQ P (run P md X) ops l K) ⟨s, σ⟩; unfold opQ; simp only [hw, cond_true, h]; exact ⟨r, σ', hc, kk⟩
  | d b i => cases hm
  | c b i W σs cm =>
    intro hA hR
    have free : ∀ x, σ.blk x = none → x < σ.next → σ'.blk x = none ∧ x < σ'.next := fun x h1 h2 => (run_fm hX (B := mkBlk [] 0) hc h1 h2).2
    have hR0 : b + i + (l.length + 1) ≤ σ.next := hR.1
    have hR1 : b + (i + 1) + l.length ≤ σ.next := hR.nxt.1
    have h0 := free (b + i) (by have := hR.2 0 (by simp); simpa using this) (by omega)
    have hA' : OldEq b W σs σ' := ⟨by omega, fun x hx hx' => by
      rcases hwr x with (h | ⟨c, _, h⟩) | h
      · omega
      · exact absurd h (hx' c)
      · rw [h, hA.2 x hx hx']⟩
    have hR' : Room b (i + 1) l.length σ' := ⟨by
      by_cases hl : l.length = 0
      · omega
      · have := (free (b + (i + 1) + (l.length - 1)) (hR.nxt.2 _ (by omega)) (by omega)).2
        omega, fun j hj => (free _ (hR.nxt.2 j hj) (by omega)).1⟩
    have hp : (Fr.put ⟨s, σ⟩ o.dst r σ').σ = σ' := by cases o.dst <;> rfl
    have kk := kk (by rw [hp]; exact hA') (by rw [hp]; exact hR')
    have hs : stepO P (run P md X) ops (b + i) o s σ = some (r, σ') := by simp only [stepO, hw, if_true, h, Option.bind_some, hc]
    unfold opsC
    simp only [isCall_chg hcl, hw, Bool.and_self]
    refine ⟨r, σ', hs, fun x hx hwf => ?_, hA', hR', kk⟩
    rcases hwr x with (h | ⟨c, h1, h2⟩) | h
    · omega
    · exact absurd h2 (hwf c h1)
    · exact h
def EB : Ent → Nat → Prop
  | .box b _, x => x = b
  | .own _ _ t _, x => BT t x
  | .flt _ t _, x => BT t x
  | .keep F _, x => x ∈ F
  | .frt .., _ => False
theorem eb_mem {σ : St} : ∀ {es : List Ent} {F : List Nat}, HeapR σ es F → ∀ {e : Ent}, e ∈ es → ∀ {x : Nat}, EB e x → x ∈ F
  | e0 :: es, F, h, e, he, x, hx => by
    obtain ⟨S, F', rfl, h1, h2⟩ := h
    rcases List.mem_cons.1 he with rfl | he
    · refine List.mem_append_left _ ?_
      cases e with
      | box b c => obtain ⟨rfl, _⟩ := h1; rw [show x = b from hx]; simp
      | own z w t v => obtain ⟨e, o, n, rfl⟩ := hx; obtain ⟨_, _, k, h6⟩ := h1; exact hold_ref_mem h6
      | flt w t v =>
        obtain ⟨e, o, n, rfl⟩ := hx
        rcases h1 with ⟨h1, _⟩ | ⟨h1, _⟩ | ⟨b, B, n', h1, _, rfl, _⟩
        · cases h1
        · cases h1
        · injection h1 with h1; rw [h1]; simp
      | keep F2 σk => obtain ⟨rfl, _⟩ := h1; exact hx
      | frt => exact hx.elim
    · exact List.mem_append_right _ (eb_mem h2 he hx)
  | [], _, _, _, he, _, _ => by cases he
theorem Heap.wrap' {σ0 σ : St} {ents E : List Ent} (h : Heap σ0 σ (ents ++ E)) : ∃ F, Heap σ0 σ (ents ++ [.keep F σ]) ∧ (∀ σ' ents', Heap σ0 σ' (ents' ++ [.keep F σ]) → Heap σ0 σ' (ents' ++ E)) ∧ ∀ e ∈ E, ∀ x, EB e x → x ∈ F := by
  obtain ⟨F, h1, h2, h3⟩ := h.ex
  obtain ⟨F1, F2, rfl, h4, h5⟩ := h1.split
  refine ⟨F2, ⟨h.grow, F1 ++ F2, h4.join ⟨F2, [], by simp, ⟨rfl, fun b hb => ⟨rfl, h5.some b hb⟩⟩, rfl⟩, h2, h3⟩, fun σ' ents' k => ?_, fun e he x hx => eb_mem h5 he hx⟩
  obtain ⟨G, k1, k2, k3⟩ := k.ex
  obtain ⟨G1, G2, rfl, k4, k5⟩ := k1.split
  obtain ⟨S, F', rfl, ⟨rfl, k6⟩, k7⟩ := k5
  cases k7
  simp only [List.append_nil] at k2 k3
  exact ⟨k.grow, G1 ++ S, k4.join (h5.same fun b hb => (k6 b hb).1), k2, k3⟩
def Stay (R : Nat → Prop) (es : List Ent) : Prop := ∀ x, R x → ∃ e ∈ es, EB e x
theorem Stay.nil {es : List Ent} : Stay RN es := fun x h => h.elim
theorem Stay.box {R : Nat → Prop} {es : List Ent} {b : Nat} {c : List T} (h : Ent.box b c ∈ es) (k : Stay R es) : Stay (RB b R) es := fun y hy => by
  rcases hy with rfl | hy
  · exact ⟨_, h, rfl⟩
  · exact k y hy
theorem Stay.own {R : Nat → Prop} {es : List Ent} {z : Bool} {w : Nat} {t v : T} (h : Ent.own z w t v ∈ es) (k : Stay R es) : Stay (RT t R) es := fun y hy => by
  rcases hy with hy | hy
  · exact ⟨_, h, hy⟩
  · exact k y hy
theorem q_callRX (hX : XOk X) (hm : m.chg = true) (R : Nat → Prop) (hR : Stay R es) (hwr : ∀ x, ¬ R x → m.wr x) {fo : Operand} {as : Array Operand} {tys : Array TypeId} {a b xs : List T} {n : Nat} {tree : List T → T} {ents' : List T → List Ent} (hw : want ops L g = some true) (hS : Sub L s) (hf : gE (get L) fo = some (.fn f a b)) (ha : gEs (get L) as.toList = some xs)
    (hH : Heap σ0 σ (ents ++ es)) (hr : RawS P md X f (a ++ xs ++ b) n tree ents ents')
    (k : ∀ hs σ' s', hs.length = n → Heap σ0 σ' (ents' hs ++ es) → Sub (putL L d (tree hs)) s' → opsX P (run P md X) ops (nxM m) l K ⟨s', σ'⟩) : opsX P (run P md X) ops m (⟨d, .call ⟨.value fo, as, tys⟩, ty, ps, af, g⟩ :: l) K ⟨s, σ⟩ := by
  obtain ⟨F, hw1, hw2, hw3⟩ := Heap.wrap' hH
  obtain ⟨hs, σ', h1, h2, h3k⟩ := hr σ0 σ _ hw1
  have h3 := hw2 _ _ h3k
  have hst : ∀ x, R x → σ'.blk x = σ.blk x := fun x hx => by
    obtain ⟨e, he, hc⟩ := hR x hx
    have hF : x ∈ F := hw3 e he x hc
    obtain ⟨G', k1, _⟩ := h3k.ex
    obtain ⟨G3, G4, rfl, k3, k4⟩ := k1.split
    obtain ⟨S, F', rfl, ⟨rfl, k6⟩, k7⟩ := k4
    exact (k6 x hF).1
  refine x_callX hX hm (fun x => by by_cases hx : R x; exact .inr (hst x hx); exact .inl (hwr x hx)) (f := f) (args := a ++ xs ++ b) rfl (want_sound hS hw) (fun kk σ2 => by rw [a_call, gEs_sound hS ha, Option.bind_some, gE_sound hS hf]; rfl) h2 ?_
  rw [put_eq]
  exact k _ _ _ h1 h3 (sub_putL hS d _ σ)
theorem LentL.mark {S : List Nat} : ∀ {bs : List Nat} {cs : List (List T)}, LentL σ bs cs → LentL (σ.mark S) bs cs
  | [], [], _ => trivial
  | b :: bs, c :: cs, ⟨⟨h1, B, h2, h3⟩, h4⟩ => ⟨⟨h1, by
      have e : (σ.mark S).blk b = some (if b ∈ S then { B with st := false } else B) := by simp [St.mark, h2]
      refine ⟨_, e, ?_⟩
      split <;> exact h3⟩, h4.mark⟩
  | [], _ :: _, h => h.elim
  | _ :: _, [], h => h.elim
end
abbrev nt (α : Type) [Enc α] : T := Sl.t (⟨true, []⟩ : Sl α)
section
variable {z : Bool} {ts vs : List T} {es : List Ent}
theorem HLi {k : IntKind} {n : Int} (r : HL z ts vs es) : HL z (.int k n :: ts) (.int k n :: vs) es := HL.leaf (fun σ d => hold_int _ σ d _ _) r
theorem HLb {n : Bool} (r : HL z ts vs es) : HL z (.bool n :: ts) (.bool n :: vs) es := HL.leaf (fun σ d => hold_bool _ σ d _) r
theorem HLs {n : ByteArray} (r : HL z ts vs es) : HL z (.str n :: ts) (.str n :: vs) es := HL.leaf (fun σ d => hold_str _ σ d _) r
theorem HLn {α : Type} [Enc α] (r : HL z ts vs es) : HL z (Sl.t (⟨true, []⟩ : Sl α) :: ts) (Sl.t (⟨true, []⟩ : Sl α) :: vs) es := HL.leaf (fun σ d => hold_nilS _ σ d) r
theorem HLp {α : Type} [Enc α] {a : Sl α} (r : HL false ts vs es) : HL false (a.t :: ts) (a.t :: vs) es := HL.leaf (fun σ d => hold_pure σ d _) r
end
abbrev i4 (n : Int) : T := .int .i64 n
section
variable {P : Program} {O : Oracle} {ops : Array Oper} {m : Mo} {l : List Oper} {K : Fr → Prop} {s : Nat → T} {σ σ0 : St} {L : List (Nat × T)} {es : List Ent}
variable {d : Option Nat} {ty : TypeId} {ps : String} {af : Array Edge} {g : Option (Nat × Bool)}
theorem qs (n : Nat) (L' : List (Nat × T)) (hS : Sub L s) (k : ∀ s', Sub L' s' → opsX P O ops (nxN n m) (l.drop n) K ⟨s', σ⟩) (h : ((seg P ops n l L).map fun M => L'.map fun p => get M p.1) = some (L'.map fun p => some p.2) := by kernel_rfl) : opsX P O ops m l K ⟨s, σ⟩ := q_seg n L' hS h k
end
end Go.Am
end
section
set_option linter.unusedVariables false
set_option linter.unusedSimpArgs false
namespace Go.Am
section
variable {P : Program} {O : Oracle} {ops : Array Oper} {m : Mo} {l : List Oper} {K : Fr → Prop} {s : Nat → T} {σ σ0 : St} {L : List (Nat × T)} {es ents : List Ent}
variable {d : Option Nat} {ty : TypeId} {ps : String} {af : Array Edge} {g : Option (Nat × Bool)}
theorem Heap.fltOne {w : Nat} {t v : T} (h : Heap σ0 σ (.flt w t v :: es)) : IsOne t := by
  obtain ⟨S, h1, _⟩ := h.head
  rcases h1 with ⟨rfl, _⟩ | ⟨rfl, _⟩ | ⟨b, B, n, rfl, _⟩ <;> exact ⟨rfl, rfl⟩
end
end Go.Am
end
section
set_option linter.unusedVariables false
set_option linter.unusedSimpArgs false
namespace Go.Am
open Classical
def Kb (F : List Nat) (σk : St) (x : Nat) (c : List T) : Prop := x ∈ F ∧ ∃ B, σk.blk x = some B ∧ B.cells = c ∧ B.ep = 0 ∧ B.low = 0
def KLe (F : List Nat) (σ : St) (F2 : List Nat) (σ2 : St) : Prop := F.Nodup ∧ ∀ b ∈ F, b ∈ F2 ∧ σ2.blk b = σ.blk b
theorem Kb.mono {F F2 : List Nat} {σ σ2 : St} {x : Nat} {c : List T} (h : Kb F σ x c) (k : KLe F σ F2 σ2) : Kb F2 σ2 x c := by
  obtain ⟨h1, B, h2, h3⟩ := h
  obtain ⟨k1, k2⟩ := k.2 x h1
  exact ⟨k1, B, by rw [k2, h2], h3⟩
theorem Heap.part {σ0 σ σk σ2 : St} {Fk F2 : List Nat} {es : List Ent} (h : Heap σ0 σ (.keep F2 σ2 :: es)) (k : KLe Fk σk F2 σ2) : ∃ F3, Heap σ0 σ (.keep Fk σk :: .keep F3 σ2 :: es) ∧ ∀ σ' es', Heap σ0 σ' (.keep Fk σk :: .keep F3 σ2 :: es') → Heap σ0 σ' (.keep F2 σ2 :: es') := by
  obtain ⟨S0, ⟨rfl, _⟩, hn2, _⟩ := h.head
  refine ⟨S0.filter fun b => decide (b ∉ Fk), ?_, fun σ' es' h' => ?_⟩
  · refine Heap.step (es1 := [.keep S0 σ2]) (es2 := [.keep Fk σk, .keep (S0.filter fun b => decide (b ∉ Fk)) σ2]) (es := es) h (Nat.le_refl _) fun S hS hnd hbd => ?_
    obtain ⟨S1, F1, rfl, ⟨rfl, h1⟩, hnil⟩ := hS
    cases hnil
    refine ⟨Fk ++ S1.filter fun b => decide (b ∉ Fk), ⟨Fk, S1.filter fun b => decide (b ∉ Fk), rfl, ⟨rfl, fun b hb => ?_⟩, _, [], by simp, ⟨rfl, fun b hb => h1 b (List.mem_filter.1 hb).1⟩, rfl⟩, ?_, fun b hb => .inl ?_, fun _ _ _ => rfl⟩
    · obtain ⟨k1, k2⟩ := k.2 b hb
      exact ⟨by rw [(h1 b k1).1, k2], (h1 b k1).2⟩
    · exact List.nodup_append.2 ⟨k.1, hn2.filter _, fun a ha b hb => by
        rintro rfl
        have := (List.mem_filter.1 hb).2
        simp at this; exact this ha⟩
    · rw [List.append_nil]
      rcases List.mem_append.1 hb with hb | hb
      · exact (k.2 b hb).1
      · exact (List.mem_filter.1 hb).1
  · refine Heap.step (es1 := [.keep Fk σk, .keep (S0.filter fun b => decide (b ∉ Fk)) σ2]) (es2 := [.keep S0 σ2]) (es := es') h' (Nat.le_refl _) fun S hS hnd hbd => ?_
    obtain ⟨S1, F1, rfl, ⟨rfl, h1⟩, S3, F3, rfl, ⟨rfl, h3⟩, hnil⟩ := hS
    cases hnil
    refine ⟨S0, ⟨S0, [], by simp, ⟨rfl, fun b hb => ?_⟩, rfl⟩, hn2, fun b hb => .inl ?_, fun _ _ _ => rfl⟩
    · by_cases hm : b ∈ S1
      · exact ⟨by rw [(h1 b hm).1, (k.2 b hm).2], (h1 b hm).2⟩
      · exact h3 b (List.mem_filter.2 ⟨hb, by simpa using hm⟩)
    · rw [List.append_nil]
      by_cases hm : b ∈ S1
      · exact List.mem_append_left _ hm
      · exact List.mem_append_right _ (List.mem_filter.2 ⟨hb, by simpa using hm⟩)
section
variable (P : Program) (md : Nat → Md) (X : Ext) {α : Type}
def ThenOk (en : α → List T → List Ent) (n : Nat) (th : T) (Φ : Int → α → Option (Bool × α)) (F : List Nat) (σk : St) : Prop :=
  ∀ e S y hs, hs.length = n → Φ e S = some y → ∃ f a b, th = .fn f a b ∧ RawS P md X f (a ++ [.int .i64 e] ++ b) n (fun _ => .bool y.1) (en S hs ++ [.keep F σk]) (fun hs' => en y.2 hs' ++ [.keep F σk])
end
section
variable {P : Program} {md : Nat → Md} {X : Ext} {α : Type} {en : α → List T → List Ent} {n : Nat} {th : T} {Φ : Int → α → Option (Bool × α)} {F F2 : List Nat} {σk σ2 : St}
theorem ThenOk.mono (h : ThenOk P md X en n th Φ F σk) (k : KLe F σk F2 σ2) : ThenOk P md X en n th Φ F2 σ2 := fun e S y hs hl hy => by
  obtain ⟨f, a, b, e1, h1⟩ := h e S y hs hl hy
  refine ⟨f, a, b, e1, fun σ0 σ E hH => ?_⟩
  rw [List.append_assoc] at hH
  have hH := hH.perm List.perm_append_comm
  obtain ⟨F3, h2, h3⟩ := Heap.part (es := E ++ en S hs) hH k
  have h2 : Heap σ0 σ ((en S hs ++ [.keep F σk]) ++ (.keep F3 σ2 :: E)) := h2.perm (by
    rw [List.append_assoc]
    refine List.Perm.trans ?_ List.perm_append_comm
    simp only [List.cons_append, List.nil_append]; exact .refl _)
  obtain ⟨hs', σ', q1, q2, q3⟩ := h1 σ0 σ _ h2
  refine ⟨hs', σ', q1, q2, ?_⟩
  have q3 : Heap σ0 σ' (.keep F σk :: .keep F3 σ2 :: (E ++ en y.2 hs')) := q3.perm (by
    rw [List.append_assoc]
    refine List.Perm.trans List.perm_append_comm ?_
    simp only [List.cons_append, List.nil_append]; exact .refl _)
  have q4 := h3 _ _ q3
  rw [List.append_assoc]
  exact q4.perm (by
    refine List.Perm.trans ?_ List.perm_append_comm
    simp only [List.cons_append, List.nil_append]; exact .refl _)
variable {ops : Array Oper} {m : Mo} {l : List Oper} {K : Fr → Prop} {s : Nat → T} {σ σ0 : St} {L : List (Nat × T)} {es ents : List Ent}
variable {d : Option Nat} {ty : TypeId} {ps : String} {af : Array Edge} {g : Option (Nat × Bool)}
theorem RawS.keep {f n : Nat} {args : List T} {tree : List T → T} {ents : List Ent} {ents' : List T → List Ent} (h : RawS P md X f args n tree ents ents') (ks : List Ent) : RawS P md X f args n tree (ents ++ ks) (fun hs => ents' hs ++ ks) := fun σ0 σ E hH => by
  rw [List.append_assoc] at hH
  obtain ⟨hs, σ', h1, h2, h3⟩ := h σ0 σ (ks ++ E) hH
  exact ⟨hs, σ', h1, h2, by rw [List.append_assoc]; exact h3⟩
def Pt (F : List Nat) (σk : St) (pp : T) (c : List T) : Prop := (∃ rest, pp = .vw (c ++ rest)) ∨ ∃ b, pp = .ptr b 0 0 c.length ∧ Kb F σk b c
theorem Pt.mono {pp : T} {c : List T} (h : Pt F σk pp c) (k : KLe F σk F2 σ2) : Pt F2 σ2 pp c := h.imp id fun ⟨b, h1, h2⟩ => ⟨b, h1, h2.mono k⟩
theorem Pt.vw {c rest : List T} : Pt F σk (.vw (c ++ rest)) c := .inl ⟨rest, rfl⟩
theorem Pt.box {b : Nat} {c : List T} {n : Nat} (hn : n = c.length) (h : Kb F σk b c) : Pt F σk (.ptr b 0 0 n) c := .inr ⟨b, by rw [hn], h⟩
theorem Pt.one {pp : T} {c : List T} (h : Pt F σk pp c) : IsOne pp := by
  rcases h with ⟨rest, rfl⟩ | ⟨b, rfl, _⟩ <;> exact ⟨rfl, rfl⟩
end
end Go.Am
end
section
set_option linter.unusedVariables false
set_option linter.unusedSimpArgs false
namespace Go.Am
section
variable {P : Program} {md : Nat → Md} {X : Ext} {β : Type} {eb : β → T} {f : Nat} {r : β}
variable {ops : Array Oper} {m : Mo} {l : List Oper} {K : Fr → Prop} {s : Nat → T} {σ : St} {L : List (Nat × T)}
variable {d : Option Nat} {ty : TypeId} {ps : String} {af : Array Edge} {g : Option (Nat × Bool)}
end
end Go.Am
namespace Go.Am
theorem Enter.of_ok {P : Program} {f : Nat} {c : Code} {n : Nat} {rs : List ResultVar} (h : Ok P f c n rs) : Enter P f := by
  obtain ⟨fn, h1, h2, h3, _⟩ := h
  exact ⟨fn, _, h1, h2, h3⟩
end Go.Am
namespace Go.Am
section
variable {P : Program} {O : Oracle} {Q : AExit → Fr → Prop} {s : Nat → T} {σ : St} {L : List (Nat × T)}
theorem c_cT {c : Operand} {a b : Code} {t : Bool} (h : t = true) (hS : Sub L s) (hc : gE (get L) c = some (.bool t)) (k : codeQ P O a Q ⟨s, σ⟩) : codeQ P O (.cond c a b) Q ⟨s, σ⟩ := c_cond hS hc (fun _ => k) (fun hf => ff_absurd h hf)
theorem c_cF {c : Operand} {a b : Code} {t : Bool} (h : ¬ (t = true)) (hS : Sub L s) (hc : gE (get L) c = some (.bool t)) (k : codeQ P O b Q ⟨s, σ⟩) : codeQ P O (.cond c a b) Q ⟨s, σ⟩ := c_cond hS hc (fun hf => tt_absurd h hf) (fun _ => k)
end
end Go.Am
namespace Go.Am
section
variable {σ0 σ : St} {es : List Ent}
theorem Heap.up1 {a0 a1 : Ent} (h : Heap σ0 σ (a0 :: a1 :: es)) : Heap σ0 σ (a1 :: a0 :: es) := h.pull 1
theorem Heap.up2 {a0 a1 a2 : Ent} (h : Heap σ0 σ (a0 :: a1 :: a2 :: es)) : Heap σ0 σ (a2 :: a0 :: a1 :: es) := h.pull 2
theorem Heap.up4 {a0 a1 a2 a3 a4 : Ent} (h : Heap σ0 σ (a0 :: a1 :: a2 :: a3 :: a4 :: es)) : Heap σ0 σ (a4 :: a0 :: a1 :: a2 :: a3 :: es) := h.pull 4
theorem Heap.up5 {a0 a1 a2 a3 a4 a5 : Ent} (h : Heap σ0 σ (a0 :: a1 :: a2 :: a3 :: a4 :: a5 :: es)) : Heap σ0 σ (a5 :: a0 :: a1 :: a2 :: a3 :: a4 :: es) := h.pull 5
theorem Heap.up8 {a0 a1 a2 a3 a4 a5 a6 a7 a8 : Ent} (h : Heap σ0 σ (a0 :: a1 :: a2 :: a3 :: a4 :: a5 :: a6 :: a7 :: a8 :: es)) : Heap σ0 σ (a8 :: a0 :: a1 :: a2 :: a3 :: a4 :: a5 :: a6 :: a7 :: es) := h.pull 8
end
end Go.Am
end
section
set_option linter.unusedVariables false
set_option linter.unusedSimpArgs false
namespace Go.Am
def Kn (σ0 : St) (L : List (Nat × T)) (es : List Ent) (p : Prop) (G : Fr → Prop) : Prop := p → ∀ s σ, Sub L s → Heap σ0 σ es → G ⟨s, σ⟩
inductive Ct where
  | s (c : Code)
  | b (i : Nat)
inductive Wh where
  | c (c : Code)
  | x (e : AExit)
def nx : Nat → Wh → List Ct → Option (Wh × List Ct)
  | 0, _, _ => none
  | n + 1, .c c, k => match c with
    | .seq a b => nx n (.c a) (.s b :: k)
    | .block i c => nx n (.c c) (.b i :: k)
    | .skip => nx n (.x .normal) k
    | .exit i => nx n (.x (.exit i)) k
    | .ret => nx n (.x .ret) k
    | c => some (.c c, k)
  | n + 1, .x e, k => match k with
    | [] => some (.x e, [])
    | .s c :: k => match e with
      | .normal => nx n (.c c) k
      | .exit j => nx n (.x (.exit j)) k
      | .ret => nx n (.x .ret) k
    | .b i :: k => match e with
      | .exit j => match Nat.beq j i with
        | true => nx n (.x .normal) k
        | false => nx n (.x (.exit j)) k
      | .normal => nx n (.x .normal) k
      | .ret => nx n (.x .ret) k
section
variable (P : Program) (O : Oracle)
def popQ : List Ct → (AExit → Fr → Prop) → AExit → Fr → Prop
  | [], Q => Q
  | .s c :: k, Q => seqQ (codeQ P O c (popQ k Q)) (popQ k Q)
  | .b i :: k, Q => blkQ i (popQ k Q)
def whQ : Wh → List Ct → (AExit → Fr → Prop) → Fr → Prop
  | .c c, k, Q, fr => codeQ P O c (popQ P O k Q) fr
  | .x e, k, Q, fr => popQ P O k Q e fr
end
section
variable {P : Program} {O : Oracle} {Q : AExit → Fr → Prop} {fr : Fr}
theorem nx_ok : ∀ {n : Nat} {w : Wh} {k : List Ct} {w' : Wh} {k' : List Ct}, nx n w k = some (w', k') → whQ P O w' k' Q fr → whQ P O w k Q fr
  | 0, _, _, _, _, h, _ => by cases h
  | n + 1, .c c, k, w', k', h, g => by
    have hd : ∀ c, some (Wh.c c, k) = some (w', k') → whQ P O (.c c) k Q fr := fun c h => by injection h with h; injection h with h1 h2; subst h1; subst h2; exact g
    cases c with
    | seq a b => exact nx_ok (n := n) (w := .c a) (k := .s b :: k) h g
    | block i c => exact nx_ok (n := n) (w := .c c) (k := .b i :: k) h g
    | skip => exact nx_ok (n := n) (w := .x .normal) h g
    | exit i => exact nx_ok (n := n) (w := .x (.exit i)) h g
    | ret => exact nx_ok (n := n) (w := .x .ret) h g
    | _ => exact hd _ h
  | n + 1, .x e, [], w', k', h, g => by injection h with h; injection h with h1 h2; subst h1; subst h2; exact g
  | n + 1, .x e, .s c :: k, w', k', h, g => by
    cases e with
    | normal => exact nx_ok (n := n) (w := .c c) (k := k) h g
    | exit j => exact nx_ok (n := n) (w := .x (.exit j)) (k := k) h g
    | ret => exact nx_ok (n := n) (w := .x .ret) (k := k) h g
  | n + 1, .x e, .b i :: k, w', k', h, g => by
    cases e with
    | normal => exact nx_ok (n := n) (w := .x .normal) (k := k) h g
    | exit j =>
      simp only [nx] at h
      show popQ P O k Q (if j = i then .normal else .exit j) fr
      split at h
      · rename_i hb; rw [if_pos (Nat.eq_of_beq_eq_true hb)]; exact nx_ok (n := n) (w := .x .normal) (k := k) h g
      · rename_i hb; rw [if_neg (fun e => by rw [e] at hb; simp at hb)]; exact nx_ok (n := n) (w := .x (.exit j)) (k := k) h g
    | ret => exact nx_ok (n := n) (w := .x .ret) (k := k) h g
end
def foL {α β : Type} : List α → (List α → Option β) → Option β
  | [], k => k []
  | x :: xs, k => foL xs fun ys => k (x :: ys)
theorem foL_eq {α β : Type} : ∀ (l : List α) (k : List α → Option β), foL l k = k l
  | [], _ => rfl
  | x :: xs, k => by rw [foL, foL_eq xs]
def tkL {β : Type} : Nat → List T → (List T → Option β) → Option β
  | 0, _, k => k []
  | _ + 1, [], _ => none
  | n + 1, x :: xs, k => tkL n xs fun ys => k (x :: ys)
theorem tkL_some {β : Type} {b : β} : ∀ {n : Nat} {l : List T} {k : List T → Option β}, tkL n l k = some b → n ≤ l.length ∧ k (l.take n) = some b
  | 0, l, k, h => ⟨Nat.zero_le _, by simpa [tkL] using h⟩
  | n + 1, [], k, h => by cases h
  | n + 1, x :: xs, k, h => by
    obtain ⟨h1, h2⟩ := tkL_some (n := n) (l := xs) h
    exact ⟨by simp; omega, by simpa using h2⟩
def drL : Nat → List T → Option (List T)
  | 0, l => some l
  | _ + 1, [] => none
  | n + 1, _ :: xs => drL n xs
theorem drL_some : ∀ {n : Nat} {l r : List T}, drL n l = some r → n ≤ l.length ∧ r = l.drop n
  | 0, l, r, h => ⟨Nat.zero_le _, by injection h with h; simp [h]⟩
  | n + 1, [], r, h => by cases h
  | n + 1, x :: xs, r, h => by
    obtain ⟨h1, h2⟩ := drL_some (n := n) (l := xs) h
    exact ⟨by simp; omega, by simpa using h2⟩
def partF (P : Program) (t : TypeId) (cs : List T) (off : Nat) : Option T :=
  match drL off cs with
  | some cs => match aggOf P t with
    | some true => match szOf P t with
      | some n => tkL n cs fun l => some (.agg l)
      | none => none
    | some false => match cs with
      | x :: _ => some x
      | [] => none
    | none => none
  | none => none
theorem partF_ok {P : Program} {t : TypeId} {cs : List T} {off : Nat} {v : T} (h : partF P t cs off = some v) : part P t cs off = some v := by
  unfold partF at h
  split at h
  · rename_i r hr
    obtain ⟨h1, rfl⟩ := drL_some hr
    unfold part
    split at h
    · rename_i ha
      split at h
      · rename_i n hn
        obtain ⟨h2, h3⟩ := tkL_some h
        simp only [List.length_drop] at h2
        rw [ha, Option.bind_some, hn]
        simp only [if_true, Option.bind_some]
        rw [if_pos (by omega)]; exact h3
      · cases h
    · rename_i ha
      rw [ha, Option.bind_some]
      simp only [Bool.false_eq_true, if_false]
      split at h
      · rename_i x xs hx
        injection h with h; subst h
        have := congrArg (·[0]?) hx
        simpa using this
      · cases h
    · cases h
  · cases h
def fillF (place : Nat → Option (Nat × Nat)) (cells : List T) : List (Nat × T) → Option (List T)
  | [] => some cells
  | (i, v) :: rest => match place i with
    | some (off, size) => match Nat.beq v.cells.length size && Nat.ble (off + size) cells.length && v.cells.all T.one with
      | true => foL (splice cells off v.cells) fun cells => fillF place cells rest
      | false => none
    | none => none
theorem fillF_ok {place : Nat → Option (Nat × Nat)} : ∀ {ps : List (Nat × T)} {cells r : List T}, fillF place cells ps = some r → fillA place cells ps = some r
  | [], _, _, h => h
  | (i, v) :: rest, cells, r, h => by
    simp only [fillF] at h
    split at h
    · rename_i off size hp
      split at h
      · rename_i hc
        simp only [Bool.and_eq_true] at hc
        rw [foL_eq] at h
        simp only [fillA, hp, Option.bind_some]
        rw [if_pos ⟨Nat.eq_of_beq_eq_true hc.1.1, Nat.le_of_ble_eq_true hc.1.2, hc.2⟩]
        exact fillF_ok h
      · cases h
    · cases h
def pF (P : Program) (g : Nat → Option T) (op : Op) : Option T :=
  match op with
  | .build t parts => match zeroOf P t with
    | some z => match gPs g parts.toList with
      | some ps => match okP P t with
        | true => match fillF (fun i => match fieldOf P t i with | some (o, _, n) => some (o, n) | none => none) z ps with
          | some cs => foL cs fun cs => some (.agg cs)
          | none => none
        | false => none
      | none => none
    | none => none
  | .load t a => match gE g a with
    | some (.vw cs) => partF P t cs 0
    | _ => none
  | .field t x f => match gE g x with
    | some (.agg cs) => match fieldOf P t f with
      | some (off, ft, _) => partF P ft cs off
      | none => none
    | _ => none
  | .fieldAddr t x f => match gE g x with
    | some x => match fieldOf P t f with
      | some (off, _, n) => match x with
        | .ptr b e o m => match !Nat.beq n 0 && Nat.ble (off + n) m with
          | true => some (.ptr b e (o + off) n)
          | false => none
        | .vw cs => match n with
          | 0 => none
          | _ + 1 => match drL off cs with
            | some cs' => match tkL n cs' (fun _ => some ()) with
              | some _ => some (.vw cs')
              | none => none
            | none => none
        | _ => none
      | none => none
    | none => none
  | op => pOp P g op
theorem pF_ok {P : Program} {g : Nat → Option T} {op : Op} {v : T} (h : pF P g op = some v) : pOp P g op = some v := by
  cases op with
  | build t parts =>
    simp only [pF] at h
    split at h
    · rename_i z hz
      split at h
      · rename_i ps hp
        split at h
        · rename_i hk
          split at h
          · rename_i cs hc
            rw [foL_eq] at h
            have e : (fun i => (fieldOf P t i).map fun (o, _, n) => (o, n)) = fun i => match fieldOf P t i with | some (o, _, n) => some (o, n) | none => none := by
              funext i; cases fieldOf P t i <;> rfl
            simp only [pOp, hz, hp, hk, e, fillF_ok hc]; exact h
          · cases h
        · cases h
      · cases h
    · cases h
  | load t a =>
    simp only [pF] at h
    split at h
    · rename_i hc; simp only [pOp, hc]; exact partF_ok h
    · cases h
  | field t x f =>
    simp only [pF] at h
    split at h
    · rename_i hc
      split at h
      · rename_i hf; simp only [pOp, hc, hf]; exact partF_ok h
      · cases h
    · cases h
  | fieldAddr t x f =>
    simp only [pF] at h
    split at h
    · rename_i hx
      split at h
      · rename_i hf
        simp only [pOp, hx, hf]
        split at h
        · split at h
          · rename_i hc
            simp only [Bool.and_eq_true, Bool.not_eq_true'] at hc
            show (if _ = 0 then none else if _ then _ else none) = _; rw [if_neg (fun (e : _ = 0) => by rw [e] at hc; simp at hc), if_pos (Nat.le_of_ble_eq_true hc.2)]; exact h
          · cases h
        · split at h
          · cases h
          · split at h
            · rename_i cs' hd
              obtain ⟨h1, rfl⟩ := drL_some hd
              split at h
              · rename_i u hu
                obtain ⟨h2, _⟩ := tkL_some hu
                simp only [List.length_drop] at h2
                show (if _ = 0 then none else if _ then _ else none) = _; rw [if_neg (by omega), if_pos (by omega)]; exact h
              · cases h
            · cases h
        · cases h
      · cases h
    · cases h
  | _ => exact h
def sg (P : Program) (ops : Array Oper) : Nat → List Oper → List (Nat × T) → Option (List (Nat × T) × List Oper)
  | 0, l, L => some (L, l)
  | _ + 1, [], _ => none
  | n + 1, o :: l, L => match want ops L o.guard with
    | some true => match pF P (get L) o.op with
      | some v => match o.dst with
        | some d => sg P ops n l ((d, v) :: L)
        | none => sg P ops n l L
      | none => none
    | some false => match o.dst with
      | some d => sg P ops n l ((d, .tup []) :: L)
      | none => sg P ops n l L
    | none => none
theorem sg_seg {P : Program} {ops : Array Oper} : ∀ {n : Nat} {l : List Oper} {L : List (Nat × T)} {M : List (Nat × T)} {l' : List Oper}, sg P ops n l L = some (M, l') → seg P ops n l L = some M ∧ l' = l.drop n
  | 0, l, L, M, l', h => by injection h with h; injection h with h1 h2; subst h1; subst h2; exact ⟨rfl, rfl⟩
  | n + 1, [], L, M, l', h => by cases h
  | n + 1, o :: l, L, M, l', h => by
    simp only [sg] at h
    simp only [seg, List.drop_succ_cons]
    split at h
    · rename_i hw
      split at h
      · rename_i v hv
        simp only [hw, pF_ok hv]
        split at h
        · rename_i d hd; rw [hd]; exact sg_seg h
        · rename_i hd; rw [hd]; exact sg_seg h
      · cases h
    · rename_i hw
      simp only [hw]
      split at h
      · rename_i d hd; rw [hd]; exact sg_seg h
      · rename_i hd; rw [hd]; exact sg_seg h
    · cases h
def sgA (P : Program) (ops : Array Oper) : List Oper → List (Nat × T) → Option (List (Nat × T))
  | [], L => some L
  | o :: l, L => match want ops L o.guard with
    | some true => match pF P (get L) o.op with
      | some v => match o.dst with
        | some d => sgA P ops l ((d, v) :: L)
        | none => sgA P ops l L
      | none => none
    | some false => match o.dst with
      | some d => sgA P ops l ((d, .tup []) :: L)
      | none => sgA P ops l L
    | none => none
theorem sgA_seg {P : Program} {ops : Array Oper} : ∀ {l : List Oper} {L : List (Nat × T)} {M : List (Nat × T)}, sgA P ops l L = some M → seg P ops l.length l L = some M
  | [], L, M, h => by injection h with h; subst h; rfl
  | o :: l, L, M, h => by
    simp only [sgA] at h
    simp only [seg, List.length_cons]
    split at h
    · rename_i hw
      split at h
      · rename_i v hv
        simp only [hw, pF_ok hv]
        split at h
        · rename_i d hd; rw [hd]; exact sgA_seg h
        · rename_i hd; rw [hd]; exact sgA_seg h
      · cases h
    · rename_i hw
      simp only [hw]
      split at h
      · rename_i d hd; rw [hd]; exact sgA_seg h
      · rename_i hd; rw [hd]; exact sgA_seg h
    · cases h
section
variable {P : Program} {O : Oracle} {ops : Array Oper} {m : Mo} {l l' : List Oper} {K : Fr → Prop} {σ0 : St} {L L' : List (Nat × T)} {es es' : List Ent} {p q : Prop} {G : Fr → Prop}
variable {Q : AExit → Fr → Prop} {k k' : List Ct} {w w' : Wh} {s : Nat → T} {σ : St}
theorem t_bk (h : p) (hS : Sub L s) (hH : Heap σ0 σ es) (kk : Kn σ0 L es p G) : G ⟨s, σ⟩ := kk h s σ hS hH
theorem t_h (f : ∀ {σ}, Heap σ0 σ es → Heap σ0 σ es') (kk : Kn σ0 L es' p G) : Kn σ0 L es p G := fun h s σ hS hH => kk h s σ hS (f hH)
theorem t_U (n : Nat) (kk : Kn σ0 L' es p (opsX P O ops (nxN n m) l' K)) (h : sg P ops n l L = some (L', l') := by rfl) : Kn σ0 L es p (opsX P O ops m l K) := fun hp s σ hS hH => by
  obtain ⟨h1, rfl⟩ := sg_seg h
  exact seg_sound h1 hS fun s' hM => kk hp s' σ hM hH
theorem t_N (kk : Kn σ0 L' es p (whQ P O w' k' Q)) (h : sgA P ops l L = some L' := by rfl) (h2 : nx 99 (.x .normal) k = some (w', k') := by rfl) : Kn σ0 L es p (opsX P O ops m l (popQ P O k Q .normal)) := fun hp s σ hS hH =>
  seg_sound (sgA_seg h) hS fun s' hM => by
    rw [List.drop_length]
    exact x_nil (nx_ok (w := .x .normal) h2 (kk hp s' σ hM hH))
theorem t_R {id : Nat} (kk : Kn σ0 L es p (opsX P O ops .q ops.toList (popQ P O k Q .normal))) : Kn σ0 L es p (whQ P O (.c (.region id ops false)) k Q) := kk
theorem t_RU {id : Nat} (n : Nat) (kk : Kn σ0 L' es p (opsX P O ops .q l' (popQ P O k Q .normal))) (h : sg P ops n ops.toList L = some (L', l') := by rfl) : Kn σ0 L es p (whQ P O (.c (.region id ops false)) k Q) := fun hp s σ hS hH => by
  obtain ⟨h1, rfl⟩ := sg_seg h
  have e : ∀ n, nxN n Mo.q = .q := fun n => by induction n with
    | zero => rfl
    | succ n ih => exact ih
  exact seg_sound (m := .q) h1 hS fun s' hM => by rw [e]; exact kk hp s' σ hM hH
theorem t_RN {id : Nat} (kk : Kn σ0 L' es p (whQ P O w' k' Q)) (h : sgA P ops ops.toList L = some L' := by rfl) (h2 : nx 99 (.x .normal) k = some (w', k') := by rfl) : Kn σ0 L es p (whQ P O (.c (.region id ops false)) k Q) := t_R (t_N kk h h2)
theorem t_go {c : Code} (h : p) (hS : Sub L s) (hH : Heap σ0 σ es) (kk : Kn σ0 L es p (whQ P O w' k' Q)) (hn : nx 99 (.c c) [] = some (w', k') := by rfl) : codeQ P O c Q ⟨s, σ⟩ := nx_ok (w := .c c) (k := []) hn (kk h s σ hS hH)
theorem ff_ne : ¬ (false = true) := by simp
end
section
variable {P : Program} {O : Oracle} {ops : Array Oper} {m : Mo} {l : List Oper} {K : Fr → Prop} {σ0 : St} {L L' : List (Nat × T)} {es es' : List Ent} {p q : Prop} {G : Fr → Prop} {γ : Type} {r : γ} {x y : Option γ}
variable {Q : AExit → Fr → Prop} {k k1 k2 : List Ct} {w1 w2 : Wh} {c : Operand} {a b : Code} {t : Bool}
theorem t_if (h1 : t = true → Kn σ0 L es (x = some r) (whQ P O w1 k1 Q)) (h2 : ¬ (t = true) → Kn σ0 L es (y = some r) (whQ P O w2 k2 Q)) (hc : gE (get L) c = some (.bool t) := by rfl) (e1 : nx 99 (.c a) k = some (w1, k1) := by rfl) (e2 : nx 99 (.c b) k = some (w2, k2) := by rfl) : Kn σ0 L es ((if t = true then x else y) = some r) (whQ P O (.c (.cond c a b)) k Q) := fun hp s σ hS hH =>
  c_cond hS hc (fun h => nx_ok (w := .c a) e1 (h1 h (it_pos h hp) s σ hS hH)) (fun h => have h : ¬ (t = true) := by simp [h]
    nx_ok (w := .c b) e2 (h2 h (it_neg h hp) s σ hS hH))
theorem t_cT (h : t = true) (kk : Kn σ0 L es p (whQ P O w1 k1 Q)) (hc : gE (get L) c = some (.bool t) := by rfl) (e1 : nx 99 (.c a) k = some (w1, k1) := by rfl) : Kn σ0 L es p (whQ P O (.c (.cond c a b)) k Q) := fun hp s σ hS hH =>
  c_cT h hS hc (nx_ok (w := .c a) e1 (kk hp s σ hS hH))
theorem t_cF (h : ¬ (t = true)) (kk : Kn σ0 L es p (whQ P O w1 k1 Q)) (hc : gE (get L) c = some (.bool t) := by rfl) (e1 : nx 99 (.c b) k = some (w1, k1) := by rfl) : Kn σ0 L es p (whQ P O (.c (.cond c a b)) k Q) := fun hp s σ hS hH =>
  c_cF h hS hc (nx_ok (w := .c b) e1 (kk hp s σ hS hH))
theorem t_gif (d : Nat) (h1 : t = true → Kn σ0 ((d, .bool true) :: L) es (x = some r) G) (h2 : ¬ (t = true) → Kn σ0 ((d, .bool false) :: L) es (y = some r) G) (hc : get L d = some (.bool t) := by rfl) : Kn σ0 L es ((if t = true then x else y) = some r) G := fun hp s σ hS hH => by
  have e := hS d _ hc
  by_cases h : t = true
  · exact h1 h (it_pos h hp) s σ (sub_cons hS (by rw [e, h])) hH
  · exact h2 h (it_neg h hp) s σ (sub_cons hS (by rw [e]; simp at h; rw [h])) hH
end
end Go.Am
end
section
set_option linter.unusedVariables false
set_option linter.unusedSimpArgs false
namespace Go.Am
def pickE : Nat → List Ent → Option (Ent × List Ent)
  | 0, e :: es => some (e, es)
  | n + 1, e :: es => match pickE n es with
    | some (x, r) => some (x, e :: r)
    | none => none
  | _, [] => none
theorem pickE_perm : ∀ {n : Nat} {es : List Ent} {x : Ent} {r : List Ent}, pickE n es = some (x, r) → es.Perm (x :: r)
  | 0, e :: es, x, r, h => by injection h with h; injection h with h1 h2; subst h1; subst h2; exact .refl _
  | n + 1, e :: es, x, r, h => by
    simp only [pickE] at h
    split at h
    · rename_i x' r' hr
      injection h with h; injection h with h1 h2; subst h1; subst h2
      exact ((pickE_perm hr).cons e).trans (.swap _ _ _)
    · cases h
  | 0, [], _, _, h => by cases h
  | _ + 1, [], _, _, h => by cases h
theorem Heap.pick {σ0 σ : St} {n : Nat} {es : List Ent} {x : Ent} {r : List Ent} (hH : Heap σ0 σ es) (h : pickE n es = some (x, r)) : Heap σ0 σ (x :: r) := hH.perm (pickE_perm h)
def zeroF (P : Program) (t : TypeId) : Option (List T) := match zeroOf P t with
  | some z => foL z some
  | none => none
theorem zeroF_ok {P : Program} {t : TypeId} {z : List T} (h : zeroF P t = some z) : zeroOf P t = some z := by
  unfold zeroF at h
  split at h
  · rename_i z' hz; rw [foL_eq] at h; rw [hz]; exact h
  · cases h
def cellsF : T → Option (List T)
  | .agg cs => foL cs some
  | .int k n => some [.int k n]
  | .bool b => some [.bool b]
  | .str s => some [.str s]
  | .nilp => some [.nilp]
  | .nilf => some [.nilf]
  | .nili => some [.nili]
  | .nilm => some [.nilm]
  | .ptr b e o m => some [.ptr b e o m]
  | .vw cs => some [.vw cs]
  | .row z n cs => some [.row z n cs]
  | .emp => some [.emp]
  | .ref b e o n => some [.ref b e o n]
  | .fn f a b => some [.fn f a b]
  | .tup cs => some [.tup cs]
theorem cellsF_ok {v : T} {cs : List T} (h : cellsF v = some cs) : v.cells = cs := by
  cases v with
  | agg l => rw [cellsF, foL_eq] at h; injection h
  | _ => injection h
def storeF (P : Program) (t : TypeId) (cells : List T) (off n : Nat) (cs : List T) : Option (List T) :=
  match szOf P t with
  | some sz => match Nat.beq cs.length sz && Nat.ble sz n && Nat.ble (off + sz) cells.length with
    | true => foL (splice cells off cs) some
    | false => none
  | none => none
theorem storeF_ok {P : Program} {t : TypeId} {cells cs r : List T} {off n : Nat} (h : storeF P t cells off n cs = some r) : storeC P t cells off n cs = some r := by
  unfold storeF at h; unfold storeC
  split at h
  · rename_i sz hz
    split at h
    · rename_i hc
      simp only [Bool.and_eq_true] at hc
      rw [foL_eq] at h
      rw [hz]
      show (if _ then _ else none) = _
      rw [if_pos ⟨Nat.eq_of_beq_eq_true hc.1.1, Nat.le_of_ble_eq_true hc.1.2, Nat.le_of_ble_eq_true hc.2⟩]; exact h
    · cases h
  · cases h
def pu (L : List (Nat × T)) (d : Option Nat) (v : T) : Option (List (Nat × T)) := match d with
  | some d => some ((d, v) :: L)
  | none => some L
theorem pu_ok {L L' : List (Nat × T)} {d : Option Nat} {v : T} (h : pu L d v = some L') : putL L d v = L' := by
  cases d with
  | some d => injection h
  | none => injection h
class Lit (α : Type) [Enc α] where
  c : α → List T
  h : ∀ a, Enc.cells a = c a
instance : Lit ByteArray := ⟨fun s => [.str s], fun _ => rfl⟩
instance : Lit Bool := ⟨fun s => [.bool s], fun _ => rfl⟩
instance (k : IntKind) : Lit (Iv k) := ⟨fun s => [.int k s.v], fun _ => rfl⟩
instance {α : Type} [Enc α] : Lit (Sl α) := ⟨fun s => [s.t], fun _ => rfl⟩
section
variable {P : Program} {O : Oracle} {ops : Array Oper} {m : Mo} {l : List Oper} {K : Fr → Prop} {σ0 : St} {L L' : List (Nat × T)} {es es' : List Ent} {p : Prop} {β γ : Type} {r : γ}
variable {d : Nat} {dO : Option Nat} {ty : TypeId} {ps : String} {af : Array Edge} {g : Option (Nat × Bool)}
theorem k_alloc {t : TypeId} {z : List T} (kk : ∀ b, Kn σ0 ((d, .ptr b 0 0 z.length) :: L) (.box b z :: es) p (opsX P O ops .q l K)) (hz : zeroF P t = some z := by rfl) (hw : want ops L g = some true := by rfl) : Kn σ0 L es p (opsX P O ops .q (⟨some d, .alloc t, ty, ps, af, g⟩ :: l) K) := fun hp s σ hS hH =>
  q_alloc hw hS hH (zeroF_ok hz) fun b σ' s' hH' hS' => kk b hp s' σ' hS' hH'
theorem k_allocC {t : TypeId} {z : List T} (hb : m.base σ0) (kk : ∀ b, m.nw b → Kn σ0 ((d, .ptr b 0 0 z.length) :: L) (.box b z :: es) p (opsX P O ops (nxM m) l K)) (hz : zeroF P t = some z := by rfl) (hw : want ops L g = some true := by rfl) (hm : m.chg = true := by rfl) : Kn σ0 L es p (opsX P O ops m (⟨some d, .alloc t, ty, ps, af, g⟩ :: l) K) := fun hp s σ hS hH =>
  q_allocC hm hb hw hS hH (zeroF_ok hz) fun b σ' s' hn hH' hS' => kk b hn hp s' σ' hS' hH'
theorem k_box {x : Operand} {t : TypeId} {v : T} {cs : List T} (kk : ∀ b, Kn σ0 ((d, .ptr b 0 0 cs.length) :: L) (.box b cs :: es) p (opsX P O ops .q l K)) (hx : gE (get L) x = some v := by rfl) (hcs : cellsF v = some cs := by rfl) (h1 : cs.all T.one = true := by kernel_rfl) (hw : want ops L g = some true := by rfl) : Kn σ0 L es p (opsX P O ops .q (⟨some d, .box t x, ty, ps, af, g⟩ :: l) K) := fun hp s σ hS hH =>
  q_box hw hS hH hx (cellsF_ok hcs) h1 fun b σ' s' hH' hS' => kk b hp s' σ' hS' hH'
theorem k_storeV {a x : Operand} {t : TypeId} {b off n : Nat} {cells cells' cs : List T} {v : T} (i : Nat) (hcs : v.cells = cs) (h1 : cs.all T.one = true) (kk : Kn σ0 L' (.box b cells' :: es') p (opsX P O ops (nxM m) l K)) (ha : gE (get L) a = some (.ptr b 0 off n) := by rfl) (he : pickE i es = some (.box b cells, es') := by rfl) (hx : gE (get L) x = some v := by rfl) (hc : storeF P t cells off n cs = some cells' := by rfl) (hL : pu L dO (.tup []) = some L' := by rfl) (hw : want ops L g = some true := by rfl) (hwr : ∀ {σ}, Heap σ0 σ es → m.wr b := by exact fun _ => trivial) (hm : m.chg = true := by rfl) : Kn σ0 L es p (opsX P O ops m (⟨dO, .store t a x, ty, ps, af, g⟩ :: l) K) := fun hp s σ hS hH =>
  q_storeC hm (hwr hH) hw hS (hH.pick he) ha hx hcs h1 (storeF_ok hc) fun σ' s' hH' hS' => kk hp s' σ' (pu_ok hL ▸ hS') hH'
theorem k_store {a x : Operand} {t : TypeId} {b off n : Nat} {cells cells' cs : List T} {v : T} (i : Nat) (kk : Kn σ0 L' (.box b cells' :: es') p (opsX P O ops (nxM m) l K)) (ha : gE (get L) a = some (.ptr b 0 off n) := by rfl) (he : pickE i es = some (.box b cells, es') := by rfl) (hx : gE (get L) x = some v := by rfl) (hcs : cellsF v = some cs := by rfl) (h1 : cs.all T.one = true := by kernel_rfl) (hc : storeF P t cells off n cs = some cells' := by rfl) (hL : pu L dO (.tup []) = some L' := by rfl) (hw : want ops L g = some true := by rfl) (hwr : ∀ {σ}, Heap σ0 σ es → m.wr b := by exact fun _ => trivial) (hm : m.chg = true := by rfl) : Kn σ0 L es p (opsX P O ops m (⟨dO, .store t a x, ty, ps, af, g⟩ :: l) K) :=
  k_storeV i (cellsF_ok hcs) h1 kk ha he hx hc hL hw hwr hm
theorem k_storeT {a x : Operand} {t : TypeId} {b off n : Nat} {cells cells' : List T} {v : T} (i : Nat) (h1 : IsOne v) (kk : Kn σ0 L' (.box b cells' :: es') p (opsX P O ops (nxM m) l K)) (ha : gE (get L) a = some (.ptr b 0 off n) := by rfl) (he : pickE i es = some (.box b cells, es') := by rfl) (hx : gE (get L) x = some v := by rfl) (hc : storeF P t cells off n [v] = some cells' := by rfl) (hL : pu L dO (.tup []) = some L' := by rfl) (hw : want ops L g = some true := by rfl) (hwr : ∀ {σ}, Heap σ0 σ es → m.wr b := by exact fun _ => trivial) (hm : m.chg = true := by rfl) : Kn σ0 L es p (opsX P O ops m (⟨dO, .store t a x, ty, ps, af, g⟩ :: l) K) :=
  k_storeV i h1.1 (by simp [h1.2]) kk ha he hx hc hL hw hwr hm
theorem k_storeA {a x : Operand} {t : TypeId} {b n : Nat} {cells cs : List T} {v : T} (i : Nat) (kk : Kn σ0 L' (.box b cs :: es') p (opsX P O ops (nxM m) l K)) (ha : gE (get L) a = some (.ptr b 0 0 n) := by rfl) (he : pickE i es = some (.box b cells, es') := by rfl) (hx : gE (get L) x = some v := by rfl) (hcs : cellsF v = some cs := by rfl) (h1 : cs.all T.one = true := by kernel_rfl) (hc : storeC P t cells 0 n cs = some cs := by kernel_rfl) (hL : pu L dO (.tup []) = some L' := by rfl) (hw : want ops L g = some true := by rfl) (hwr : ∀ {σ}, Heap σ0 σ es → m.wr b := by exact fun _ => trivial) (hm : m.chg = true := by rfl) : Kn σ0 L es p (opsX P O ops m (⟨dO, .store t a x, ty, ps, af, g⟩ :: l) K) := fun hp s σ hS hH =>
  q_storeC hm (hwr hH) hw hS (hH.pick he) ha hx (cellsF_ok hcs) h1 hc fun σ' s' hH' hS' => kk hp s' σ' (pu_ok hL ▸ hS') hH'
theorem k_load {a : Operand} {t : TypeId} {b e off n : Nat} {cells cs : List T} {v : T} (i : Nat) (kk : Kn σ0 ((d, v) :: L) es p (opsX P O ops (nxM m) l K)) (ha : gE (get L) a = some (.ptr b e off n) := by rfl) (he : es[i]? = some (.box b cells) := by rfl) (hc : drL off cells = some cs := by rfl) (hv : partF P t cs 0 = some v := by rfl) (hn : part P t (cs.take n) 0 = some v := by kernel_rfl) (hlt : m.lt b := by exact trivial) (hw : want ops L g = some true := by rfl) : Kn σ0 L es p (opsX P O ops m (⟨some d, .load t a, ty, ps, af, g⟩ :: l) K) := fun hp s σ hS hH =>
  q_load (e := e) i hlt hw hS hH he ha (by rw [← (drL_some hc).2]; exact hn) fun s' hS' => kk hp s' σ hS' hH
theorem k_loadL {a : Operand} {t : TypeId} {b e off n : Nat} {cells cs : List T} {v : T} (hL : Lent σ0 b cells) (kk : Kn σ0 ((d, v) :: L) es p (opsX P O ops (nxM m) l K)) (ha : gE (get L) a = some (.ptr b e off n) := by rfl) (hc : drL off cells = some cs := by rfl) (hv : partF P t cs 0 = some v := by rfl) (hn : part P t (cs.take n) 0 = some v := by kernel_rfl) (hlt : m.lt b := by exact trivial) (hw : want ops L g = some true := by rfl) : Kn σ0 L es p (opsX P O ops m (⟨some d, .load t a, ty, ps, af, g⟩ :: l) K) := fun hp s σ hS hH =>
  q_loadL (e := e) hlt hw hS hH hL ha (by rw [← (drL_some hc).2]; exact hn) fun s' hS' => kk hp s' σ hS' hH
theorem k_elt {α : Type} [Enc α] [Lit α] {x i : Operand} {t e : TypeId} {sl : Sl α} {kk : IntKind} {j : Int} {f : α → Option γ} {c : α → List T} (k : ∀ y rest, elt sl j = some y → Kn σ0 ((d, .vw (c y ++ rest)) :: L) es (f y = some r) (opsX P O ops (nxM m) l K)) (hx : gE (get L) x = some sl.t := by rfl) (hi : gE (get L) i = some (.int kk j) := by rfl)
    (he : elemOfSl P t = some e := by rfl) (hz : szOf P e = some (Enc.w α) := by kernel_rfl) (hc : ∀ y, foL (Lit.c y) some = some (c y) := by intro; rfl) (hw : want ops L g = some true := by rfl) : Kn σ0 L es ((elt sl j).bind f = some r) (opsX P O ops m (⟨some d, .indexAddr t x i, ty, ps, af, g⟩ :: l) K) := fun hp s σ hS hH => by
  obtain ⟨y, hy, hp⟩ := bind_some hp
  exact q_elt (c y) hw hS hx hi he hz hy (by rw [Lit.h]; have := hc y; rw [foL_eq] at this; injection this) fun rest s' hS' => k y rest hy hp s' σ hS' hH
theorem k_byte {x i : Operand} {t : TypeId} {w : ByteArray} {kk : IntKind} {j : Int} {f : Int → Option γ} (k : ∀ y, byteAt w j = some y → Kn σ0 ((d, .int .u8 y) :: L) es (f y = some r) (opsX P O ops (nxM m) l K)) (hx : gE (get L) x = some (.str w) := by rfl) (hi : gE (get L) i = some (.int kk j) := by rfl) (ht : kindT P t = 3 := by kernel_rfl) (hw : want ops L g = some true := by rfl) : Kn σ0 L es ((byteAt w j).bind f = some r) (opsX P O ops m (⟨some d, .index t x i, ty, ps, af, g⟩ :: l) K) := fun hp s σ hS hH => by
  obtain ⟨y, hy, hp⟩ := bind_some hp
  exact q_byteO hw hS hx hi ht hy fun s' hS' => k y hy hp s' σ hS' hH
theorem k_cat {x y : Operand} {t u : TypeId} {a b : ByteArray} {f : ByteArray → Option γ} (k : ∀ c, catB a b = some c → Kn σ0 ((d, .str c) :: L) es (f c = some r) (opsX P O ops (nxM m) l K)) (hx : gE (get L) x = some (.str a) := by rfl) (hy : gE (get L) y = some (.str b) := by rfl) (hw : want ops L g = some true := by rfl) : Kn σ0 L es ((catB a b).bind f = some r) (opsX P O ops m (⟨some d, .binOp .add t x y u, ty, ps, af, g⟩ :: l) K) := fun hp s σ hS hH => by
  obtain ⟨c, hc, hp⟩ := bind_some hp
  exact q_catO hw hS hx hy hc fun s' hS' => k c hc hp s' σ hS' hH
theorem k_subS {α : Type} [Enc α] {x : Operand} {lo hi : Option Operand} {t e : TypeId} {w : Sl α} {vlo vhi : Option T} {a b : Int} {f : Sl α → Option γ} (k : ∀ y, subS w a b = some y → Kn σ0 ((d, y.t) :: L) es (f y = some r) (opsX P O ops (nxM m) l K)) (hx : gE (get L) x = some w.t := by rfl) (hlo : gO (get L) lo = some vlo := by rfl) (hhi : gO (get L) hi = some vhi := by rfl)
    (ha : boundI vlo 0 = some a := by rfl) (hb : boundI vhi w.l.length = some b := by rfl) (he : elemOfSl P t = some e := by rfl) (hz : szOf P e = some (Enc.w α) := by kernel_rfl) (hw : want ops L g = some true := by rfl) : Kn σ0 L es ((subS w a b).bind f = some r) (opsX P O ops m (⟨some d, .slice t x lo hi none, ty, ps, af, g⟩ :: l) K) := fun hp s σ hS hH => by
  obtain ⟨y, hy, hp⟩ := bind_some hp
  exact q_subS hw hS hx hlo hhi ha hb he hz hy fun s' hS' => k y hy hp s' σ hS' hH
end
def hlOk : T → Bool
  | .int .. | .bool _ | .str _ | .row .. | .nilp | .nilf | .nili | .nilm | .fn .. | .vw .. | .ptr .. => true
  | .agg cs => hlOks cs
  | .tup cs => hlOks cs
  | .ref .. | .emp => false
where hlOks : List T → Bool
  | [] => true
  | t :: ts => hlOk t && hlOks ts
mutual
theorem hl1 {ts vs : List T} {es : List Ent} : ∀ {t : T}, hlOk t = true → HL false ts vs es → HL false (t :: ts) (t :: vs) es
  | .int k n, _, h => HL.leaf (fun σ d => hold_int _ σ d _ _) h
  | .bool b, _, h => HL.leaf (fun σ d => by cases d <;> rfl) h
  | .str b, _, h => HL.leaf (fun σ d => by cases d <;> rfl) h
  | .row z n cs, _, h => HL.leaf (fun σ d => by cases d <;> cases z <;> cases n <;> cases cs <;> rfl) h
  | .emp, k, h => by cases k
  | .nilp, _, h => HL.leaf (fun σ d => by cases d <;> rfl) h
  | .nilf, _, h => HL.leaf (fun σ d => by cases d <;> rfl) h
  | .nili, _, h => HL.leaf (fun σ d => by cases d <;> rfl) h
  | .nilm, _, h => HL.leaf (fun σ d => by cases d <;> rfl) h
  | .fn f a b, _, h => HL.leaf (fun σ d => by cases d <;> rfl) h
  | .vw cs, _, h => HL.leaf (fun σ d => by cases d <;> rfl) h
  | .ptr b e o m, _, h => HL.leaf (fun σ d => by cases d <;> rfl) h
  | .agg cs, k, h => HL.agg (es1 := []) (hl2 (ts := cs) k) h
  | .tup cs, k, h => HL.tup (es1 := []) (hl2 (ts := cs) k) h
  | .ref .., k, h => by cases k
theorem hl2 : ∀ {ts : List T}, hlOk.hlOks ts = true → HL false ts ts []
  | [], _ => .nil
  | t :: ts, h => by
    simp only [hlOk.hlOks, Bool.and_eq_true] at h
    exact hl1 h.1 (hl2 h.2)
end
def HC (z : Bool) (ts vs : List T) (es es1 : List Ent) : Prop := ∃ ents, HL z ts vs ents ∧ es = ents ++ es1
section
variable {z : Bool} {ts vs cs us : List T} {es es1 es2 : List Ent}
theorem HC.nil : HC z [] [] es es := ⟨[], .nil, rfl⟩
theorem HC.i {k : IntKind} {n : Int} (h : HC z ts vs es es1) : HC z (.int k n :: ts) (.int k n :: vs) es es1 := let ⟨a, b, c⟩ := h; ⟨a, HLi b, c⟩
theorem HC.s {x : ByteArray} (h : HC z ts vs es es1) : HC z (.str x :: ts) (.str x :: vs) es es1 := let ⟨a, b, c⟩ := h; ⟨a, HLs b, c⟩
theorem HC.b {x : Bool} (h : HC z ts vs es es1) : HC z (.bool x :: ts) (.bool x :: vs) es es1 := let ⟨a, b, c⟩ := h; ⟨a, HLb b, c⟩
theorem HC.n {α : Type} [Enc α] (h : HC z ts vs es es1) : HC z (Sl.t (⟨true, []⟩ : Sl α) :: ts) (Sl.t (⟨true, []⟩ : Sl α) :: vs) es es1 := let ⟨a, b, c⟩ := h; ⟨a, HLn b, c⟩
theorem HC.p {α : Type} [Enc α] {x : Sl α} (h : HC false ts vs es es1) : HC false (x.t :: ts) (x.t :: vs) es es1 := let ⟨a, b, c⟩ := h; ⟨a, HLp b, c⟩
theorem HC.own {z' : Bool} {w : Nat} {t v : T} (hz : (!z || z') = true) (h : HC z ts vs es es1) : HC z (t :: ts) (v :: vs) (.own z' w t v :: es) es1 := let ⟨a, b, c⟩ := h; ⟨_, HL.own hz b, by rw [c]; rfl⟩
theorem HC.agg (h : HC z cs us es es2) (k : HC z ts vs es2 es1) : HC z (.agg cs :: ts) (.agg us :: vs) es es1 := let ⟨a, b, c⟩ := h; let ⟨a', b', c'⟩ := k; ⟨a ++ a', HL.agg b b', by rw [c, c', List.append_assoc]⟩
theorem HC.of {ents : List Ent} (h : HL z ts vs ents) : HC z ts vs (ents ++ es1) es1 := ⟨_, h, rfl⟩
end
section
variable {P : Program} {md : Nat → Md} {X : Ext} {ops : Array Oper} {m : Mo} {l : List Oper} {K : Fr → Prop} {σ0 : St} {L L' : List (Nat × T)} {es es1 ents : List Ent} {β γ : Type} {eb : β → T} {r : γ} {fn : Nat} {h : β → Option γ}
variable {d : Nat} {ty : TypeId} {ps : String} {af : Array Edge} {g : Option (Nat × Bool)} {fo : Operand} {as : Array Operand} {tys : Array TypeId}
theorem k_call {xs : List T} (k : ∀ y, semV P md X eb fn xs = some y → Kn σ0 ((d, eb y) :: L) es (h y = some r) (opsX P (run P md X) ops (nxM m) l K)) (hf : gE (get L) fo = some (.fn fn [] []) := by rfl) (ha : gEs (get L) as.toList = some xs := by rfl) (hw : want ops L g = some true := by rfl) : Kn σ0 L es ((semV P md X eb fn xs).bind h = some r) (opsX P (run P md X) ops m (⟨some d, .call ⟨.value fo, as, tys⟩, ty, ps, af, g⟩ :: l) K) := fun hp s σ hS hH => by
  obtain ⟨y, hy, hp⟩ := bind_some hp
  exact q_callF (a := []) (b := []) (xs := xs) hw hS hf ha (by simpa using hy) fun s' hS' => k y hy hp s' σ hS' hH
theorem one_of {σ : St} {es : List Ent} {z : Bool} {w : Nat} {t v : T} {i : Nat} (hH : Heap σ0 σ es) (h : es[i]? = some (.own z w t v)) : IsOne t := Heap.one (hH.at i h)
theorem k_callO1 {Sh : Shape β} {ts vs : List T} {es1 : List Ent} {es' : β → T → List Ent} (k : ∀ y t, semO P md X Sh fn vs = some y → IsOne t → Kn σ0 ((d, Sh.tree [t] y) :: L) (es' y t) (h y = some r) (opsX P (run P md X) ops (nxM m) l K)) (hn : Sh.n = 1 := by rfl) (hf : gE (get L) fo = some (.fn fn [] []) := by rfl) (ha : gEs (get L) as.toList = some ts := by rfl) (hh : HC false ts vs es es1 := by repeat (first | exact HC.nil | apply HC.i | apply HC.s | apply HC.b | apply HC.n | apply HC.p | apply HC.agg | apply HC.own rfl))
    (he : ∀ y t, foL (Sh.en [t] y ++ es) some = some (es' y t) := by intros; rfl) {z : β → T → Bool} {w : β → T → Nat} {v : β → T → T} (ho : ∀ y t, (es' y t)[0]? = some (.own (z y t) (w y t) t (v y t)) := by intros; rfl) (hv : md fn = .own := by rfl) (hm : m.chg = true := by rfl) (hw : want ops L g = some true := by rfl) : Kn σ0 L es ((semO P md X Sh fn vs).bind h = some r) (opsX P (run P md X) ops m (⟨some d, .call ⟨.value fo, as, tys⟩, ty, ps, af, g⟩ :: l) K) := fun hp s σ hS hH => by
  obtain ⟨y, hy, hp⟩ := bind_some hp
  obtain ⟨ents, hh, hE⟩ := hh
  refine q_callO hm hw hS hf ha hv (hE ▸ hH) hh hy fun hs σ' s' hl hH' hS' => ?_
  rw [hn] at hl
  rw [← hE] at hH'
  match hs, hl with
  | [t], _ =>
    have := he y t; rw [foL_eq] at this; injection this with this
    rw [this] at hH'
    exact k y t hy (one_of hH' (ho y t)) hp s' σ' hS' hH'
theorem k_callO {Sh : Shape β} {ts vs : List T} {es1 : List Ent} (k : ∀ y hs, semO P md X Sh fn vs = some y → hs.length = Sh.n → Kn σ0 ((d, Sh.tree hs y) :: L) (Sh.en hs y ++ es) (h y = some r) (opsX P (run P md X) ops (nxM m) l K)) (hf : gE (get L) fo = some (.fn fn [] []) := by rfl) (ha : gEs (get L) as.toList = some ts := by rfl) (hh : HC false ts vs es es1 := by repeat (first | exact HC.nil | apply HC.i | apply HC.s | apply HC.b | apply HC.n | apply HC.p | apply HC.agg | apply HC.own rfl)) (hv : md fn = .own := by rfl) (hm : m.chg = true := by rfl) (hw : want ops L g = some true := by rfl) : Kn σ0 L es ((semO P md X Sh fn vs).bind h = some r) (opsX P (run P md X) ops m (⟨some d, .call ⟨.value fo, as, tys⟩, ty, ps, af, g⟩ :: l) K) := fun hp s σ hS hH => by
  obtain ⟨y, hy, hp⟩ := bind_some hp
  obtain ⟨ents, hh, hE⟩ := hh
  refine q_callO hm hw hS hf ha hv (hE ▸ hH) hh hy fun hs σ' s' hl hH' hS' => ?_
  rw [← hE] at hH'
  exact k y hs hy hl hp s' σ' hS' hH'
end
def KR (P : Program) (σ0 : St) (L : List (Nat × T)) (es : List Ent) (rs : List ResultVar) (l : List T) : Prop := ∀ s σ, Sub L s → Heap σ0 σ es → resL P ⟨s, σ⟩ rs = some l
def okX : AExit → Bool
  | .exit _ => false
  | _ => true
section
variable {P : Program} {md : Nat → Md} {X : Ext} {O : Oracle} {σ0 : St} {L L0 : List (Nat × T)} {es es1 ents : List Ent} {β : Type} {eb : β → T} {r v : β} {f n : Nat} {p : Prop} {c : Code} {rs : List ResultVar} {args l : List T} {w : Wh} {k : List Ct} {e : AExit} {Sh : Shape β}
theorem rN : KR P σ0 L es [] [] := fun _ _ _ _ => rfl
theorem rT {t : Nat} {v : T} (kk : KR P σ0 L es rs l) (h : get L t = some v := by rfl) : KR P σ0 L es (.tmp t :: rs) (v :: l) := fun s σ hS hH => r_tmp hS h (kk s σ hS hH)
theorem rC {a : Nat} {ty : TypeId} {b e off n : Nat} {cells cs : List T} {v : T} (i : Nat) (kk : KR P σ0 L es rs l) (h : get L a = some (.ptr b e off n) := by rfl) (he : es[i]? = some (.box b cells) := by rfl) (hc : drL off cells = some cs := by rfl) (hv : partF P ty cs 0 = some v := by rfl) (hn : part P ty (cs.take n) 0 = some v := by kernel_rfl) : KR P σ0 L es (.cell a ty :: rs) (v :: l) := fun s σ hS hH =>
  r_cell (e := e) hS (hH.at i he) h (by rw [← (drL_some hc).2]; exact hn) (kk s σ hS hH)
theorem k_W (hok : Ok P f c n rs) (hi : ∀ a b, eb a = eb b → a = b) (hp : p) (kk : ∀ σ0, Kn σ0 L0 [] p (whQ P (run P md X) w k (endW P rs σ0 (eb r)))) (hf : args.all flat3 = true := by kernel_rfl) (hv : md f = .view := by rfl) (hX : X f = none := by rfl) (hlen : Nat.ble args.length n = true := by kernel_rfl) (hL : foL (nums 0 args) some = some L0 := by rfl) (hc : nx 99 (.c c) [] = some (w, k) := by rfl) : semV P md X eb f args = some r :=
  semW_of hi hv hX hok hlen hf fun σ s hS hH => nx_ok (w := .c c) hc (kk σ hp s σ (by rw [foL_eq] at hL; injection hL with hL; rw [← hL]; exact hS) hH)
theorem k_O (hok : Ok P f c n rs) (hp : p) (kk : ∀ σ0, Kn σ0 L0 [] p (whQ P (run P md X) w k (endOw P rs σ0 Sh r))) (hf : args.all flat3 = true := by kernel_rfl) (hv : md f = .own := by rfl) (hX : X f = none := by rfl) (hlen : Nat.ble args.length n = true := by kernel_rfl) (hL : foL (nums 0 args) some = some L0 := by rfl) (hc : nx 99 (.c c) [] = some (w, k) := by rfl) : semO P md X Sh f args = some r :=
  semO_of hv hX hok hlen hf fun σ s hS hH => nx_ok (w := .c c) hc (kk σ hp s σ (by rw [foL_eq] at hL; injection hL with hL; rw [← hL]; exact hS) hH)
theorem k_eW (hr : KR P σ0 L es rs l) (hp : ∀ v, pureT (eb v) = true) (ht : tupOf l = eb v := by rfl) (hf : flat3 (eb v) = true := by kernel_rfl) (he : okX e = true := by rfl) : Kn σ0 L es (some v = some r) (whQ P O (.x e) [] (endW P rs σ0 (eb r))) := fun h s σ hS hH => by
  injection h with h; subst h
  have := end_W hH (hr s σ hS hH) ht hf (hp v)
  cases e with
  | exit i => cases he
  | _ => exact this
theorem eW {s : Nat → T} {σ : St} (hS : Sub L s) (hH : Heap σ0 σ es) (hr : KR P σ0 L es rs l) (hp : ∀ v, pureT (eb v) = true) (ht : tupOf l = eb v := by rfl) (hf : flat3 (eb v) = true := by kernel_rfl) : endW P rs σ0 (eb v) .ret ⟨s, σ⟩ := end_W hH (hr s σ hS hH) ht hf (hp v)
theorem k_eO (hs : List T) (hr : KR P σ0 L es rs l) (ht : tupOf l = Sh.tree hs v := by rfl) (hn : hs.length = Sh.n := by rfl) (he : es = Sh.en hs v ++ es1 := by rfl) (hx : okX e = true := by rfl) : Kn σ0 L es (some v = some r) (whQ P O (.x e) [] (endOw P rs σ0 Sh r)) := fun h s σ hS hH => by
  injection h with h; subst h
  have := end_Ow (P := P) hs es1 (hr s σ hS hH) ht hn hH he
  cases e with
  | exit i => cases hx
  | _ => exact this
end
def splitF : Nat → List Ct → Option (List Ct × List Ct)
  | 0, k => some ([], k)
  | n + 1, x :: k => match splitF n k with
    | some (a, b) => some (x :: a, b)
    | none => none
  | _ + 1, [] => none
theorem popQ_split {P : Program} {O : Oracle} {Q : AExit → Fr → Prop} : ∀ {n : Nat} {k a b : List Ct}, splitF n k = some (a, b) → popQ P O k Q = popQ P O a (popQ P O b Q)
  | 0, k, a, b, h => by injection h with h; injection h with h1 h2; subst h1; subst h2; rfl
  | n + 1, [], _, _, h => by cases h
  | n + 1, x :: k, a, b, h => by
    simp only [splitF] at h
    split at h
    · rename_i a' b' hs
      injection h with h; injection h with h1 h2; subst h1; subst h2
      cases x with
      | s c => simp only [popQ]; rw [popQ_split hs]
      | b i => simp only [popQ]; rw [popQ_split hs]
    · cases h
theorem popQ_mono {P : Program} {O : Oracle} {k : List Ct} : ∀ {Q Q' : AExit → Fr → Prop}, (∀ e fr, Q e fr → Q' e fr) → ∀ e fr, popQ P O k Q e fr → popQ P O k Q' e fr := by
  induction k with
  | nil => exact fun h => h
  | cons x k ih =>
    intro Q Q' h e fr hh
    cases x with
    | s c =>
      cases e with
      | normal => exact codeQ_mono (ih h) hh
      | exit i => exact ih h (.exit i) fr hh
      | ret => exact ih h .ret fr hh
    | b i =>
      cases e with
      | normal => exact ih h .normal fr hh
      | exit j => exact ih h _ fr hh
      | ret => exact ih h .ret fr hh
theorem whQ_mono {P : Program} {O : Oracle} {w : Wh} {k : List Ct} {Q Q' : AExit → Fr → Prop} (h : ∀ e fr, Q e fr → Q' e fr) {fr : Fr} (hh : whQ P O w k Q fr) : whQ P O w k Q' fr := by
  cases w with
  | c c => exact codeQ_mono (popQ_mono h) hh
  | x e => exact popQ_mono h _ _ hh
section
variable {P : Program} {O : Oracle} {ops : Array Oper} {σ0 : St} {L L1 : List (Nat × T)} {es es' : List Ent} {β γ S : Type} {r : γ} {p : Prop} {G : Fr → Prop}
variable {Q : AExit → Fr → Prop} {k ka kb k1 : List Ct} {w w1 : Wh} {s : Nat → T} {σ : St} {e : AExit} {c : Code}
theorem t_cut {A : Option β} {h : β → Option γ} (n : Nat) (F : β → AExit → Fr → Prop) (h2 : ∀ y e fr, h y = some r → F y e fr → popQ P O kb Q e fr) (h1 : ∀ y, Kn σ0 L es (A = some y) (whQ P O w ka (F y))) (hs : splitF n k = some (ka, kb) := by rfl) : Kn σ0 L es (A.bind h = some r) (whQ P O w k Q) := fun hp s σ hS hH => by
  obtain ⟨y, hy, hp⟩ := bind_some hp
  have := whQ_mono (fun e fr => h2 y e fr hp) (h1 y hy s σ hS hH)
  cases w with
  | c c => simp only [whQ] at this ⊢; rw [popQ_split hs]; exact this
  | x e => simp only [whQ] at this ⊢; rw [popQ_split hs]; exact this
theorem t_bx (h : p) (hS : Sub L s) (hH : Heap σ0 σ es) (kk : Kn σ0 L es p (whQ P O w1 k1 Q)) (hn : nx 99 (.x e) k = some (w1, k1) := by rfl) : popQ P O k Q e ⟨s, σ⟩ := nx_ok (w := .x e) hn (kk h s σ hS hH)
theorem t_e {v y : γ} (kk : ∀ {s σ}, y = v → Sub L s → Heap σ0 σ es → Q e ⟨s, σ⟩) : Kn σ0 L es (some v = some y) (whQ P O (.x e) [] Q) := fun h s σ hS hH => kk (by injection h with h; exact h.symm) hS hH
theorem t_loop {body : S → Option (S ⊕ β)} {s0 : S} {h : β → Option γ} (Inv : S → Fr → Prop) (F : β → AExit → Fr → Prop) (hi : ∀ {s σ}, Sub L s → Heap σ0 σ es → Inv s0 ⟨s, σ⟩) (hr : ∀ st x fr, body st = some x → Inv st fr → whQ P O w1 k1 (roundQ Inv F x) fr) (hk : ∀ y e fr, h y = some r → F y e fr → popQ P O k Q e fr) (hn : nx 99 (.c c) [] = some (w1, k1) := by rfl) : Kn σ0 L es ((loopO body s0).bind h = some r) (whQ P O (.c (.loop c)) k Q) := fun hp s σ hS hH => by
  obtain ⟨y, hy, hp⟩ := bind_some hp
  exact c_loop Inv F hy (hi hS hH) (fun st x fr hb hI => nx_ok (w := .c c) (k := []) hn (hr st x fr hb hI)) (fun e fr => hk y e fr hp)
theorem t_D {id : Nat} (kk : ∀ mb, Kn σ0 L es p (opsX P O ops (.d mb 0) ops.toList (popQ P O k Q .normal))) (hd : drawOk ops = true := by kernel_rfl) : Kn σ0 L es p (whQ P O (.c (.region id ops true)) k Q) := fun hp s σ hS hH =>
  c_draw (id := id) hd hH fun mb σ' hH' => kk mb hp s σ' hS hH'
end
section
variable {P : Program} {md : Nat → Md} {X : Ext} {ops : Array Oper} {σ0 : St} {L : List (Nat × T)} {es : List Ent} {p : Prop} {Q : AExit → Fr → Prop} {k : List Ct}
theorem t_chain {id : Nat} (W : List (Nat × (Nat → Prop))) (hX : XOk X) (kk : ∀ B σs, σ0.next ≤ B → (∀ x cells, Ent.box x cells ∈ es → x < B) → (∀ z w t v, Ent.own z w t v ∈ es → ∀ b e o n, t = .ref b e o n → b < B) → Kn σ0 L es p (opsX P (run P md X) ops (.c B 0 (Wc W) σs (cmpOf md ops)) ops.toList (popQ P (run P md X) k Q .normal))) (hst : drawOk ops = true := by kernel_rfl) (hch : chainB ops = true := by kernel_rfl) : Kn σ0 L es p (whQ P (run P md X) (.c (.region id ops true)) k Q) := fun hp s σ hS hH =>
  c_chain (id := id) (Wc W) hX hst hch hH fun B σs σ' h1 h2 h3 hH' => kk B σs h1 h2 h3 hp s σ' hS hH'
end
def KL (σ0 : St) (es : List Ent) (bs : List Nat) (cs : List (List T)) : Prop := ∀ σ, Heap σ0 σ es → LentL σ bs cs
section
variable {σ0 : St} {es : List Ent} {bs : List Nat} {cs : List (List T)} {b : Nat} {c : List T}
theorem lN : KL σ0 es [] [] := fun _ _ => trivial
theorem lB (i : Nat) (k : KL σ0 es bs cs) (h : es[i]? = some (.box b c) := by rfl) : KL σ0 es (b :: bs) (c :: cs) := fun σ hH => ⟨(hH.at i h).lent, k σ hH⟩
end
section
variable {P : Program} {md : Nat → Md} {X : Ext} {ops : Array Oper} {m : Mo} {l : List Oper} {K : Fr → Prop} {σ0 : St} {L L' : List (Nat × T)} {es ents : List Ent} {β γ : Type} {eb : β → T} {r : γ} {fn : Nat} {h : β → Option γ}
variable {d : Nat} {dO : Option Nat} {ty : TypeId} {ps : String} {af : Array Edge} {g : Option (Nat × Bool)} {fo : Operand} {as : Array Operand} {tys : Array TypeId}
theorem k_callL {xs : List T} {mk : List Nat → List T} {bs : List Nat} {cs : List (List T)} (hl : KL σ0 es bs cs) (k : ∀ y, semL P md X eb fn mk cs = some y → Kn σ0 ((d, eb y) :: L) es (h y = some r) (opsX P (run P md X) ops (nxM m) l K)) (hf : gE (get L) fo = some (.fn fn [] []) := by rfl) (ha : gEs (get L) as.toList = some xs := by rfl) (hmk : mk bs = xs := by rfl) (hw : want ops L g = some true := by rfl) : Kn σ0 L es ((semL P md X eb fn mk cs).bind h = some r) (opsX P (run P md X) ops m (⟨some d, .call ⟨.value fo, as, tys⟩, ty, ps, af, g⟩ :: l) K) := fun hp s σ hS hH => by
  obtain ⟨y, hy, hp⟩ := bind_some hp
  exact q_callL bs hw hS hf ha hmk (hl σ hH) hy fun s' hS' => k y hy hp s' σ hS' hH
theorem k_callH {ts vs : List T} {es1 : List Ent} (k : ∀ y, semV P md X eb fn vs = some y → Kn σ0 ((d, eb y) :: L) es (h y = some r) (opsX P (run P md X) ops (nxM m) l K)) (hlf : ∀ y, leafT (eb y) = true := by intro; kernel_rfl) (hf : gE (get L) fo = some (.fn fn [] []) := by rfl) (ha : gEs (get L) as.toList = some ts := by rfl) (hh : HC false ts vs es es1 := by repeat (first | exact HC.nil | apply HC.i | apply HC.s | apply HC.b | apply HC.n | apply HC.p | apply HC.agg | apply HC.own rfl)) (hv : md fn = .view := by rfl) (hw : want ops L g = some true := by rfl) : Kn σ0 L es ((semV P md X eb fn vs).bind h = some r) (opsX P (run P md X) ops m (⟨some d, .call ⟨.value fo, as, tys⟩, ty, ps, af, g⟩ :: l) K) := fun hp s σ hS hH => by
  obtain ⟨y, hy, hp⟩ := bind_some hp
  obtain ⟨ents, hh, hE⟩ := hh
  exact q_callH hw hS hf ha hv (hE ▸ hH) hh hy (hlf y) fun s' hS' => k y hy hp s' σ hS' hH
theorem k_callP {xs : List T} {q : T} (k : ∀ y, callV P md X eb q xs = some y → Kn σ0 ((d, eb y) :: L) es (h y = some r) (opsX P (run P md X) ops (nxM m) l K)) (hf : gE (get L) fo = some q := by rfl) (ha : gEs (get L) as.toList = some xs := by rfl) (hw : want ops L g = some true := by rfl) : Kn σ0 L es ((callV P md X eb q xs).bind h = some r) (opsX P (run P md X) ops m (⟨some d, .call ⟨.value fo, as, tys⟩, ty, ps, af, g⟩ :: l) K) := fun hp s σ hS hH => by
  obtain ⟨y, hy, hp⟩ := bind_some hp
  exact q_callP hw hS hf ha hy fun s' hS' => k y hy hp s' σ hS' hH
theorem k_callR {A : Option β} {xs a b : List T} {tree : β → List T → T} {ents' : β → List T → List Ent} {n : Nat} {es1 : List Ent} (k : ∀ y hs, A = some y → hs.length = n → Kn σ0 ((d, tree y hs) :: L) (ents' y hs ++ es1) (h y = some r) (opsX P (run P md X) ops .q l K)) (hf : gE (get L) fo = some (.fn fn a b) := by rfl) (ha : gEs (get L) as.toList = some xs := by rfl) (hr : ∀ y, A = some y → RawS P md X fn (a ++ xs ++ b) n (tree y) ents (ents' y)) (hE : es = ents ++ es1 := by rfl) (hw : want ops L g = some true := by rfl) : Kn σ0 L es (A.bind h = some r) (opsX P (run P md X) ops .q (⟨some d, .call ⟨.value fo, as, tys⟩, ty, ps, af, g⟩ :: l) K) := fun hp s σ hS hH => by
  obtain ⟨y, hy, hp⟩ := bind_some hp
  exact q_callR hw hS hf ha (hE ▸ hH) (hr y hy) fun hs σ' s' hl hH' hS' => k y hs hy hl hp s' σ' hS' hH'
theorem k_callRX {A : Option β} {xs a b : List T} {tree : β → List T → T} {ents' : β → List T → List Ent} {n : Nat} {es1 : List Ent} (R : Nat → Prop) (hX : XOk X) (hR : Stay R es1) (hwr : ∀ x, ¬ R x → m.wr x) (k : ∀ y hs, A = some y → hs.length = n → Kn σ0 ((d, tree y hs) :: L) (ents' y hs ++ es1) (h y = some r) (opsX P (run P md X) ops (nxM m) l K)) (hf : gE (get L) fo = some (.fn fn a b) := by rfl) (ha : gEs (get L) as.toList = some xs := by rfl) (hr : ∀ y, A = some y → RawS P md X fn (a ++ xs ++ b) n (tree y) ents (ents' y)) (hE : es = ents ++ es1 := by rfl) (hm : m.chg = true := by rfl) (hw : want ops L g = some true := by rfl) : Kn σ0 L es (A.bind h = some r) (opsX P (run P md X) ops m (⟨some d, .call ⟨.value fo, as, tys⟩, ty, ps, af, g⟩ :: l) K) := fun hp s σ hS hH => by
  obtain ⟨y, hy, hp⟩ := bind_some hp
  exact q_callRX hX hm R hR hwr hw hS hf ha (hE ▸ hH) (hr y hy) fun hs σ' s' hl hH' hS' => k y hs hy hl hp s' σ' hS' hH'
theorem k_inl {xs a b args : List T} {c : Code} {n0 : Nat} {rs : List ResultVar} {L0 : List (Nat × T)} {w : Wh} {k : List Ct} {p : Prop} (hok : Ok P fn c n0 rs) (kk : Kn σ0 L0 es p (whQ P (run P md X) w k (endI P rs fun v σ' => ∀ s', Sub (putL L dO v) s' → opsX P (run P md X) ops .q l K ⟨s', σ'⟩))) (hf : gE (get L) fo = some (.fn fn a b) := by rfl) (ha : gEs (get L) as.toList = some xs := by rfl) (hab : foL (a ++ xs ++ b) some = some args := by rfl) (hL : foL (nums 0 args) some = some L0 := by rfl) (hv : md fn = .raw := by rfl) (hX : X fn = none := by rfl) (hlen : Nat.ble args.length n0 = true := by kernel_rfl) (hn : nx 99 (.c c) [] = some (w, k) := by rfl) (hw : want ops L g = some true := by rfl) : Kn σ0 L es p (opsX P (run P md X) ops .q (⟨dO, .call ⟨.value fo, as, tys⟩, ty, ps, af, g⟩ :: l) K) := fun hp s σ hS hH =>
  q_inl args hw hS hf ha (by rw [foL_eq] at hab; injection hab) hv hX hok hlen fun s1 h1 => nx_ok (w := .c c) (k := []) hn (kk hp s1 σ (by rw [foL_eq] at hL; injection hL with hL; rw [← hL]; exact h1) hH)
theorem k_inlC {A : Option β} {xs a b args : List T} {c : Code} {n0 : Nat} {rs : List ResultVar} {L0 : List (Nat × T)} {w : Wh} {k : List Ct} (HF : β → (Nat → T) → St → Prop) (hok : Ok P fn c n0 rs) (k1 : ∀ y, Kn σ0 L0 es (A = some y) (whQ P (run P md X) w k (endI P rs fun v σ' => ∀ s', Sub (putL L dO v) s' → HF y s' σ'))) (k2 : ∀ y s σ, HF y s σ → h y = some r → opsX P (run P md X) ops .q l K ⟨s, σ⟩) (hf : gE (get L) fo = some (.fn fn a b) := by rfl) (ha : gEs (get L) as.toList = some xs := by rfl) (hab : foL (a ++ xs ++ b) some = some args := by rfl) (hL : foL (nums 0 args) some = some L0 := by rfl) (hv : md fn = .raw := by rfl) (hX : X fn = none := by rfl) (hlen : Nat.ble args.length n0 = true := by kernel_rfl) (hn : nx 99 (.c c) [] = some (w, k) := by rfl) (hw : want ops L g = some true := by rfl) : Kn σ0 L es (A.bind h = some r) (opsX P (run P md X) ops .q (⟨dO, .call ⟨.value fo, as, tys⟩, ty, ps, af, g⟩ :: l) K) := fun hp s σ hS hH => by
  obtain ⟨y, hy, hp⟩ := bind_some hp
  exact q_inlC (HF := HF y) args hw hS hf ha (by rw [foL_eq] at hab; injection hab) hv hX hok hlen (fun s1 h1 => nx_ok (w := .c c) (k := []) hn (k1 y hy s1 σ (by rw [foL_eq] at hL; injection hL with hL; rw [← hL]; exact h1) hH)) fun s' σ' hF => k2 y s' σ' hF hp
theorem k_eI {L1 : List (Nat × T)} {rs : List ResultVar} {l1 : List T} {v : T} {e : AExit} {p : Prop} {O : Oracle} (hr : KR P σ0 L es rs l1) (kk : Kn σ0 L' es p (opsX P O ops m l K)) (ht : tupOf l1 = v := by rfl) (hL : pu L1 dO v = some L' := by rfl) (he : okX e = true := by rfl) : Kn σ0 L es p (whQ P O (.x e) [] (endI P rs fun v σ' => ∀ s', Sub (putL L1 dO v) s' → opsX P O ops m l K ⟨s', σ'⟩)) := fun hp s σ hS hH => by
  have := end_I (K := fun v σ' => ∀ s', Sub (putL L1 dO v) s' → opsX P O ops m l K ⟨s', σ'⟩) (hr s σ hS hH) ht fun s' hS' => kk hp s' σ (pu_ok hL ▸ hS') hH
  cases e with
  | exit i => cases he
  | _ => exact this
theorem k_eIC {L1 : List (Nat × T)} {rs : List ResultVar} {l1 : List T} {v : T} {e : AExit} {O : Oracle} {HF : (Nat → T) → St → Prop} {u y : β} (hr : KR P σ0 L es rs l1) (kk : ∀ {s σ}, y = u → Sub L' s → Heap σ0 σ es → HF s σ) (ht : tupOf l1 = v := by rfl) (hL : pu L1 dO v = some L' := by rfl) (he : okX e = true := by rfl) : Kn σ0 L es (some u = some y) (whQ P O (.x e) [] (endI P rs fun v σ' => ∀ s', Sub (putL L1 dO v) s' → HF s' σ')) := fun hp s σ hS hH => by
  have := end_I (K := fun v σ' => ∀ s', Sub (putL L1 dO v) s' → HF s' σ') (hr s σ hS hH) ht fun s' hS' => kk (by injection hp with hp; exact hp.symm) (pu_ok hL ▸ hS') hH
  cases e with
  | exit i => cases he
  | _ => exact this
theorem k_lenH {α : Type} [Enc α] {z : Bool} {w : Nat} {t1 : T} {a : Sl α} {t : TypeId} {x : Operand} {p : Prop} {O : Oracle} (i : Nat) (kk : Kn σ0 ((d, .int .i64 a.l.length) :: L) es p (opsX P O ops (nxM m) l K)) (hx : gE (get L) x = some t1 := by rfl) (he : es[i]? = some (.own z w t1 a.t) := by rfl) (hk : kindT P t = 4 := by kernel_rfl) (hw : want ops L g = some true := by rfl) : Kn σ0 L es p (opsX P O ops m (⟨some d, .call ⟨.builtin .len, #[x], #[t]⟩, ty, ps, af, g⟩ :: l) K) := fun hp s σ hS hH =>
  q_lenH (z := z) (w := w) hw hS (hH.at i he) hx hk fun s' hS' => kk hp s' σ hS' hH
end
def entT : List Ent → Nat → Option T
  | .own _ _ t _ :: _, 0 => some t
  | .flt _ t _ :: _, 0 => some t
  | _ :: es, n + 1 => entT es n
  | _, _ => none
theorem entT_one {σ0 σ : St} : ∀ {es : List Ent} {i : Nat} {t : T}, Heap σ0 σ es → entT es i = some t → IsOne t
  | .own z w t v :: es, 0, t', hH, h => by injection h with h; subst h; exact Heap.one hH
  | .flt w t v :: es, 0, t', hH, h => by injection h with h; subst h; exact Heap.fltOne hH
  | .box .. :: es, 0, _, _, h => by cases h
  | .frt .. :: es, 0, _, _, h => by cases h
  | .keep .. :: es, 0, _, _, h => by cases h
  | e :: es, n + 1, t, hH, h => entT_one (es := es) (i := n) hH.drop (by cases e <;> exact h)
  | [], 0, _, _, h => by cases h
  | [], _ + 1, _, _, h => by cases h
section
variable {σ0 : St} {L : List (Nat × T)} {es es' : List Ent} {p : Prop} {G : Fr → Prop} {α β : Type} {r : α}
theorem t_one {t : T} (i : Nat) (kk : IsOne t → Kn σ0 L es p G) (h : entT es i = some t := by rfl) : Kn σ0 L es p G := fun hp s σ hS hH => kk (entT_one hH h) hp s σ hS hH
theorem t_lit (kk : Kn σ0 L es' p G) (h : foL es some = some es' := by rfl) : Kn σ0 L es p G := fun hp s σ hS hH => kk hp s σ hS (by rw [foL_eq] at h; injection h with h; rw [← h]; exact hH)
theorem el_l {γ : Type} {f : α → Option γ} {g : β → Option γ} {a : α} {r : γ} (h : Sum.elim f g (Sum.inl a) = some r) : f a = some r := h
theorem el_r {γ : Type} {f : α → Option γ} {g : β → Option γ} {a : β} {r : γ} (h : Sum.elim f g (Sum.inr a) = some r) : g a = some r := h
end
def gVF (g : Nat → Option T) : Nat → List (Nat × Operand) → Option (List T)
  | _, [] => some []
  | i, (j, x) :: l => match Nat.beq i j with
    | true => match gE g x with
      | some v => match gVF g (i + 1) l with
        | some vs => some (v :: vs)
        | none => none
      | none => none
    | false => none
theorem gVF_ok {g : Nat → Option T} : ∀ {l : List (Nat × Operand)} {i : Nat} {vs : List T}, gVF g i l = some vs → gPs g l = some (enumV i vs)
  | [], i, vs, h => by injection h with h; subst h; rfl
  | (j, x) :: l, i, vs, h => by
    simp only [gVF] at h
    split at h
    · rename_i hb
      split at h
      · rename_i v hv
        split at h
        · rename_i us hu
          injection h with h; subst h
          simp only [gPs, hv, gVF_ok hu, enumV, Nat.eq_of_beq_eq_true hb]
        · cases h
      · cases h
    · cases h
def csF : List T → Option (List T)
  | [] => some []
  | v :: vs => match cellsF v with
    | some c => match csF vs with
      | some r => foL (c ++ r) some
      | none => none
    | none => none
theorem csF_ok : ∀ {vs cs : List T}, csF vs = some cs → vs.flatMap T.cells = cs
  | [], cs, h => by injection h
  | v :: vs, cs, h => by
    simp only [csF] at h
    split at h
    · rename_i c hc
      split at h
      · rename_i r hr
        rw [foL_eq] at h; injection h with h; subst h
        rw [List.flatMap_cons, cellsF_ok hc, csF_ok hr]
      · cases h
    · cases h
theorem allV_of {sz : Nat} : ∀ {vs : List T}, (vs.all fun v => Nat.beq v.cells.length sz) = true → (vs.flatMap T.cells).all T.one = true → allV sz vs
  | [], _, _ => trivial
  | v :: vs, h, k => by
    simp only [List.all_cons, Bool.and_eq_true] at h
    rw [List.flatMap_cons, List.all_append, Bool.and_eq_true] at k
    exact ⟨Nat.eq_of_beq_eq_true h.1, k.1, allV_of h.2 k.2⟩
def litL {α : Type} [Enc α] [Lit α] : List α → List T
  | [] => []
  | x :: l => Lit.c x ++ litL l
theorem litL_eq {α : Type} [Enc α] [Lit α] : ∀ (l : List α), cellsL l = litL l
  | [] => rfl
  | x :: l => by rw [cellsL, litL, Lit.h, litL_eq l]
section
variable {P : Program} {O : Oracle} {ops : Array Oper} {m : Mo} {l : List Oper} {K : Fr → Prop} {σ0 : St} {L L' : List (Nat × T)} {es es1 es' ents : List Ent} {γ : Type} {r : γ} {p : Prop} {α : Type} [Enc α]
variable {d : Nat} {dO : Option Nat} {ty : TypeId} {ps : String} {af : Array Edge} {g : Option (Nat × Bool)} {t t2 e by_ w sz len : Nat} {x y i0 : Operand} {z : Bool} {t1 ty1 : T} {zc : List T} {parts : Array (Nat × Operand)} {kk0 : IntKind} {j : Int}
theorem k_bs [Lit α] {vs cs us : List T} (a : Sl α) (kk : ∀ t', IsOne t' → Kn σ0 ((d, t') :: L) (.own z sz t' a.t :: es1) p (opsX P O ops (nxM m) l K)) (hg : gVF (get L) 0 parts.toList = some vs := by rfl) (hc : csF vs = some cs := by rfl) (hu : foL (litL a.l) some = some us := by rfl) (hh : HC z cs us es es1 := by repeat (first | exact HC.nil | apply HC.i | apply HC.s | apply HC.b | apply HC.n | apply HC.p | apply HC.agg | apply HC.own rfl)) (he : elemOfSl P t = some e := by rfl) (hz : szOf P e = some sz := by rfl) (hzz : zeroOf P e = some zc := by rfl) (hl : (Nat.beq zc.length sz && Nat.beq vs.length len && Nat.ble (len * sz) 16777216 && !Nat.beq sz 0 && !Nat.beq len 0) = true := by kernel_rfl) (hv : (vs.all fun v => Nat.beq v.cells.length sz) = true := by kernel_rfl) (h1 : cs.all T.one = true := by kernel_rfl) (hr : T.row false len (cellsL a.l) = a.t := by rfl) (hb : m.base σ0 := by exact trivial) (hm : m.chg = true := by rfl) (hw : want ops L g = some true := by rfl) : Kn σ0 L es p (opsX P O ops m (⟨some d, .buildSlice t len parts, ty, ps, af, g⟩ :: l) K) := fun hp s σ hS hH => by
  obtain ⟨ents, hh, hE⟩ := hh
  exact q_bsC hm hb hw hS (hE ▸ hH) (gVF_ok hg) he hz hzz hl (allV_of hv (by rw [csF_ok hc]; exact h1)) (csF_ok hc) hh (by rw [foL_eq] at hu; injection hu with hu; rw [← hu, ← litL_eq]; exact hr) fun t' σ' s' h1 h2 h3 => kk t' h1 hp s' σ' h3 h2
theorem k_bs0 (kk : ∀ t', IsOne t' → Kn σ0 ((d, t') :: L) (.own true sz t' (Sl.t (⟨false, []⟩ : Sl α)) :: es) p (opsX P O ops (nxM m) l K)) (he : elemOfSl P t = some e := by rfl) (hz : szOf P e = some sz := by rfl) (hzz : zeroOf P e = some zc := by rfl) (hl : (Nat.beq zc.length sz && !Nat.beq sz 0) = true := by kernel_rfl) (hb : m.base σ0 := by exact trivial) (hm : m.chg = true := by rfl) (hw : want ops L g = some true := by rfl) : Kn σ0 L es p (opsX P O ops m (⟨some d, .buildSlice t 0 #[], ty, ps, af, g⟩ :: l) K) := fun hp s σ hS hH =>
  q_bs0 hm hb hw hS hH he hz hzz hl fun t' σ' s' h1 h2 h3 => kk t' h1 hp s' σ' h3 h2
theorem k_app {a b : Sl α} {f : Sl α → Option γ} (i i2 : Nat) (k : ∀ c t', appS by_ a b = some c → IsOne t' → Kn σ0 ((d, t') :: L) (.own z (Enc.w α) t' c.t :: es') (f c = some r) (opsX P O ops (nxM m) l K)) (hx : gE (get L) x = some t1 := by rfl) (hy : gE (get L) y = some ty1 := by rfl) (h1 : pickE i es = some (.own z (Enc.w α) t1 a.t, es1) := by rfl) (h2 : pickE i2 es1 = some (.own z (Enc.w α) ty1 b.t, es') := by rfl)
    (he : elemOfSl P t = some e := by rfl) (hz : szOf P e = some (Enc.w α) := by kernel_rfl) (hby : bytesOf P e = some by_ := by kernel_rfl) (hzz : zeroOf P e = some zc := by rfl) (hcl : (!isIntT P t2 && Nat.beq zc.length (Enc.w α) && !Nat.beq (Enc.w α) 0 && !Nat.beq by_ 0 && Nat.ble by_ 1048576) = true := by kernel_rfl) (hk : kindT P t2 = 4 := by kernel_rfl) (hb : m.base σ0 := by exact trivial) (hwr : ∀ {σ}, Heap σ0 σ es → ∀ b e o n, t1 = .ref b e o n → m.wr b := by exact fun _ _ _ _ _ _ => trivial) (hm : m.chg = true := by rfl) (hw : want ops L g = some true := by rfl) : Kn σ0 L es ((appS by_ a b).bind f = some r) (opsX P O ops m (⟨some d, .call ⟨.builtin .append, #[x, y], #[t, t2]⟩, ty, ps, af, g⟩ :: l) K) := fun hp s σ hS hH => by
  obtain ⟨c, hc, hp⟩ := bind_some hp
  have hH0 := hH
  have hH : Heap σ0 σ (.own z (Enc.w α) t1 a.t :: .own z (Enc.w α) ty1 b.t :: es') := (hH.pick h1).perm ((pickE_perm h2).cons _)
  exact q_appC hm hb (hwr hH0) hw hS hH hx hy he hz hby hzz hcl hk hc fun t' σ' s' h1 h2 h3 => k c t' hc h1 hp s' σ' h3 h2
theorem k_appR [Hld z α] {a b : Sl α} {f : Sl α → Option γ} (i : Nat) (k : ∀ c t', appS by_ a b = some c → IsOne t' → Kn σ0 ((d, t') :: L) (.own z (Enc.w α) t' c.t :: es') (f c = some r) (opsX P O ops (nxM m) l K)) (hx : gE (get L) x = some t1 := by rfl) (hy : gE (get L) y = some b.t := by rfl) (h1 : pickE i es = some (.own z (Enc.w α) t1 a.t, es') := by rfl)
    (he : elemOfSl P t = some e := by rfl) (hz : szOf P e = some (Enc.w α) := by kernel_rfl) (hby : bytesOf P e = some by_ := by kernel_rfl) (hzz : zeroOf P e = some zc := by rfl) (hcl : (!isIntT P t2 && Nat.beq zc.length (Enc.w α) && !Nat.beq (Enc.w α) 0 && !Nat.beq by_ 0 && Nat.ble by_ 1048576) = true := by kernel_rfl) (hk : kindT P t2 = 4 := by kernel_rfl) (hb : m.base σ0 := by exact trivial) (hwr : ∀ {σ}, Heap σ0 σ es → ∀ b e o n, t1 = .ref b e o n → m.wr b := by exact fun _ _ _ _ _ _ => trivial) (hm : m.chg = true := by rfl) (hw : want ops L g = some true := by rfl) : Kn σ0 L es ((appS by_ a b).bind f = some r) (opsX P O ops m (⟨some d, .call ⟨.builtin .append, #[x, y], #[t, t2]⟩, ty, ps, af, g⟩ :: l) K) := fun hp s σ hS hH => by
  obtain ⟨c, hc, hp⟩ := bind_some hp
  exact q_appRC hm hb (hwr hH) hw hS (hH.pick h1) hx hy he hz hby hzz hcl hk hc fun t' σ' s' h1 h2 h3 => k c t' hc h1 hp s' σ' h3 h2
theorem k_hidx {a : Sl α} {f : α → Option γ} (i : Nat) (k : ∀ b ep y, elt a j = some y → t1 = .ref b ep 0 a.l.length → Kn σ0 ((d, .ptr b ep (j.toNat * Enc.w α) (Enc.w α)) :: L) es (f y = some r) (opsX P O ops (nxM m) l K)) (hx : gE (get L) x = some t1 := by rfl) (hi : gE (get L) i0 = some (.int kk0 j) := by rfl) (h1 : es[i]? = some (.own z w t1 a.t) := by rfl) (he : elemOfSl P t = some e := by rfl) (hz : szOf P e = some (Enc.w α) := by kernel_rfl) (hlt : ∀ b e o n, t1 = .ref b e o n → m.lt b := by exact fun _ _ _ _ _ => trivial) (hw : want ops L g = some true := by rfl) : Kn σ0 L es ((elt a j).bind f = some r) (opsX P O ops m (⟨some d, .indexAddr t x i0, ty, ps, af, g⟩ :: l) K) := fun hp s σ hS hH => by
  obtain ⟨y, hy, hp⟩ := bind_some hp
  exact q_hidx (z := z) (w := w) hlt hw hS (hH.at i h1) hx hi he hz hy fun b ep s' hr h3 => k b ep y hy hr hp s' σ h3 hH
theorem k_hload [Lit α] {a : Sl α} {b ep n : Nat} {c : List T} {v : T} {y : α} (i off : Nat) (hr : t1 = .ref b ep 0 a.l.length) (hy : elt a j = some y) (kk : Kn σ0 ((d, v) :: L) es p (opsX P O ops (nxM m) l K)) (ha : gE (get L) x = some (.ptr b ep (j.toNat * Enc.w α + off) n) := by rfl) (he : es[i]? = some (.own z w t1 a.t) := by rfl) (hc : foL (Lit.c y) some = some c := by rfl) (hv : c[off]? = some v := by rfl) (hag : aggOf P t = some false := by kernel_rfl) (hn : Nat.ble 1 n = true := by kernel_rfl) (hlf : ∀ σ d t S, hold z σ d t = some (v, S) → t = v := by first | exact leaf_int | exact leaf_str | exact leaf_bool) (hlt : ∀ b e o n, t1 = .ref b e o n → m.lt b := by exact fun _ _ _ _ _ => trivial) (hw : want ops L g = some true := by rfl) : Kn σ0 L es p (opsX P O ops m (⟨some d, .load t x, ty, ps, af, g⟩ :: l) K) := fun hp s σ hS hH =>
  q_hload (z := z) (w := w) (c := c) hlt hw hS (hH.at i he) hr ha hy (by rw [Lit.h]; rw [foL_eq] at hc; injection hc) hag hv hn hlf fun s' h3 => kk hp s' σ h3 hH
end
section
variable {P : Program} {O : Oracle} {ops : Array Oper} {m : Mo} {l : List Oper} {K : Fr → Prop} {σ0 σk : St} {F : List Nat} {L : List (Nat × T)} {es : List Ent} {p : Prop}
variable {d : Nat} {ty : TypeId} {ps : String} {af : Array Edge} {g : Option (Nat × Bool)} {t : TypeId} {x : Operand} {pp : T} {c : List T}
end
end Go.Am
end
section
set_option linter.unusedVariables false
set_option linter.unusedSimpArgs false
namespace Go.Am
section
variable {P : Program} {O : Oracle} {ops : Array Oper} {m : Mo} {l : List Oper} {K : Fr → Prop} {s : Nat → T} {σ σ0 : St} {L : List (Nat × T)} {es es' ents : List Ent} {γ : Type} {r0 : γ} {p : Prop}
variable {d0 : Nat} {d : Option Nat} {ty : TypeId} {ps : String} {af : Array Edge} {g : Option (Nat × Bool)}
theorem q_makeC (hm : m.chg = true) (hmb : m.base σ0) {z : Bool} {x y : Operand} {k1 k2 : IntKind} {n c : Int} {t e by_ : Nat} {x0 : Iv .u8} {r : Sl (Iv .u8)} (hw : want ops L g = some true) (hS : Sub L s) (hH : Heap σ0 σ es)
    (hx : gE (get L) x = some (.int k1 n)) (hy : gE (get L) y = some (.int k2 c)) (he : elemOfSl P t = some e) (hz : szOf P e = some 1) (hby : bytesOf P e = some by_) (hzz : zeroOf P e = some [.int .u8 x0.v]) (hc : mkS by_ x0 n c = some r)
    (kk : ∀ t' σ' s', IsOne t' → Heap σ0 σ' (.own z 1 t' r.t :: es) → Sub (putL L d t') s' → opsX P O ops (nxM m) l K ⟨s', σ'⟩) : opsX P O ops m (⟨d, .makeSlice t x y, ty, ps, af, g⟩ :: l) K ⟨s, σ⟩ := by
  unfold mkS at hc
  split at hc
  · rename_i hh
    injection hc with hc; subst hc
    have hrow : Sl.t (⟨false, List.replicate n.toNat x0⟩ : Sl (Iv .u8)) = .row false n.toNat (cellsL (List.replicate n.toNat x0)) := by simp [Sl.t]
    refine x_newC hm rfl (want_sound hS hw) fun k hk hi => ⟨if n = 0 ∧ c = 0 then .emp else .ref (σ.nid k) 0 0 n.toNat, σ.pushK k (mkBlk ((List.replicate n.toNat [T.int .u8 x0.v]).flatten) 1), ?_, Cg.push hk, ?_⟩
    · rw [a_makeSlice, gE_sound hS hx, Option.bind_some, gE_sound hS hy, Option.bind_some, mkSlA_int, he, Option.bind_some, hz, Option.bind_some, hby, Option.bind_some, hzz, Option.bind_some, if_pos ⟨hh.1, hh.2.1, hh.2.2.1, hh.2.2.2.1, rfl, by decide, hk⟩]
    · rw [put_eq]
      by_cases hn0 : n = 0
      · rw [if_pos ⟨hn0, hh.2.2.2.2 hn0⟩]
        refine kk _ _ _ ⟨rfl, rfl⟩ ?_ (sub_putL hS d _ σ)
        rw [hrow, hn0]
        exact (hH.junk hk (Mo.inb_base hi hmb) _).addEmp z _
      · rw [if_neg fun w => hn0 w.1]
        refine kk _ _ _ ⟨rfl, rfl⟩ ?_ (sub_putL hS d _ σ)
        have ec : (List.replicate n.toNat [T.int .u8 x0.v]).flatten = cellsL (List.replicate n.toNat x0) := (cellsL_replicate x0 n.toNat).symm
        rw [hrow, ec]
        refine Heap.mkRowK (ents := []) hH hk (Mo.inb_base hi hmb) (by decide) (by have := hh.1; omega) (by rw [cellsL_len, List.length_replicate]; rfl) (cellsL_one _) ?_
        generalize n.toNat = k
        induction k with
        | zero => exact .nil
        | succ k ih => exact .leaf (fun σ d => by cases d <;> rfl) ih
  · cases hc
theorem convA_toK {σ : St} {k : Option Nat} {src dst e : TypeId} {x : T} {n : Nat} {cs : List T} {l : List UInt8} (hx : isTop x = true) (h1 : kindT P dst = 3) (he : elemOfSl P src = some e) (h3 : kindT P e = 10) (hc : cellsOf σ x = some (n, cs)) (hn : cs.length = n) (hb : ofBytes cs = some l) : convA P k σ src dst x = some (.str ⟨l.toArray⟩, σ) := by
  have key : convA P k σ src dst x = if kindT P dst = 3 then (elemOfSl P src).bind fun e => if kindT P e = 10 then (cellsOf σ x).bind fun (n, cs) => if cs.length = n then (ofBytes cs).map fun l => (.str ⟨l.toArray⟩, σ) else none else none else none := by
    cases x <;> first | rfl | (simp [isTop] at hx; done)
  rw [key, if_pos h1, he, Option.bind_some, if_pos h3, hc, Option.bind_some]
  simp only
  rw [if_pos hn, hb]; rfl
theorem q_b2sC (hq : m.seq = true) {z : Bool} {wd : Nat} {x : Operand} {src dst e : TypeId} {t1 : T} {a : Sl (Iv .u8)} {r : ByteArray} (hw : want ops L g = some true) (hS : Sub L s) (hH : Heap σ0 σ (.own z wd t1 a.t :: es)) (hx : gE (get L) x = some t1) (hk : Nat.beq (kindT P dst) 3 = true) (he : elemOfSl P src = some e) (hke : Nat.beq (kindT P e) 10 = true) (hr : strS a = some r)
    (k : ∀ s', Sub (putL L d (.str r)) s' → opsX P O ops (nxM m) l K ⟨s', σ⟩) : opsX P O ops m (⟨d, .convert src dst x, ty, ps, af, g⟩ :: l) K ⟨s, σ⟩ := by
  obtain ⟨S, ⟨ht, hwd, k', h2⟩, _, _⟩ := hH.head
  have ea : a.t = .row a.z a.l.length (cellsL a.l) := rfl
  rw [ea] at h2
  have hone : Enc.w (Iv .u8) = 1 := rfl
  obtain ⟨l0, h4, h5⟩ := Option.map_eq_some_iff.1 hr
  have h1 := Nat.eq_of_beq_eq_true hk; have h3 := Nat.eq_of_beq_eq_true hke
  have hof : ∀ cs, cs = cellsL a.l → ofBytes cs = some l0 := fun cs h => by rw [h, ofIv_cells, h4]
  have leaf : ∀ {k : Nat} (as : List (Iv .u8)) (ts : List T) (S : List Nat), frzL (hold z σ k) ts = some (cellsL as, S) → ts = cellsL as := by
    intro k as
    induction as with
    | nil => intro ts S h; have := frzL_length h; exact List.length_eq_zero_iff.1 (by simpa [cellsL] using this.symm)
    | cons x as ih =>
      intro ts S h
      have h : frzL (hold z σ k) ts = some (.int .u8 x.v :: cellsL as, S) := h
      cases ts with
      | nil => simp [frzL] at h
      | cons t ts =>
        simp only [frzL] at h
        obtain ⟨⟨p1, p2⟩, q1, q2⟩ := Option.bind_eq_some_iff.1 h
        obtain ⟨⟨r1, r2⟩, q3, q4⟩ := Option.map_eq_some_iff.1 q2
        injection q4 with q4 _
        injection q4 with e1 e2
        subst e1; subst e2
        have := leaf_int (z := z) (k := .u8) (n := x.v) σ k t p2 q1
        rw [this, ih ts r2 q3]; rfl
  have hconv : ∀ kk, convA P kk σ src dst t1 = some (.str r, σ) := by
    intro kk
    subst h5
    rcases hold_top ht h2 with ⟨rfl, hz, hn0, hcs, rfl⟩ | ⟨rfl, hz, hn0, hcs, rfl⟩ | ⟨hzz, x', B, S', k'', rfl, hB, c1, c3, c5, c6, c7, h3', rfl⟩
    · exact convA_toK ht h1 he h3 (n := 0) (cs := []) rfl rfl (hof _ hcs.symm)
    · exact convA_toK ht h1 he h3 (n := 0) (cs := []) rfl rfl (hof _ hcs.symm)
    · have e1 : (B.cells.drop 0).take (a.l.length * B.esz) = B.cells := by rw [List.drop_zero, ← c5, List.take_length]
      have e2 : B.cells = cellsL a.l := leaf _ _ _ h3'
      refine convA_toK ht h1 he h3 (n := a.l.length) (cs := B.cells) ?_ (by rw [e2, cellsL_len, hone, Nat.mul_one]) (hof _ e2)
      simp only [cellsOf, hB, Option.bind_some, if_pos c3, e1]
  refine q_val hw hS (fun kk σ' ha => ?_) k
  rw [Mo.al_seq ha hq, a_convert, gE_sound hS hx, Option.bind_some, hconv]; rfl
theorem k_make {x y : Operand} {k1 k2 : IntKind} {n c : Int} {t e by_ : Nat} {f : Sl (Iv .u8) → Option γ} (z : Bool) (x0 : Iv .u8) (kk : ∀ a t', mkS by_ x0 n c = some a → IsOne t' → Kn σ0 ((d0, t') :: L) (.own z 1 t' a.t :: es) (f a = some r0) (opsX P O ops (nxM m) l K)) (hx : gE (get L) x = some (.int k1 n) := by rfl) (hy : gE (get L) y = some (.int k2 c) := by rfl) (he : elemOfSl P t = some e := by rfl) (hz : szOf P e = some 1 := by kernel_rfl) (hby : bytesOf P e = some by_ := by kernel_rfl) (hzz : zeroOf P e = some [.int .u8 x0.v] := by kernel_rfl) (hb : m.base σ0 := by exact trivial) (hm : m.chg = true := by rfl) (hw : want ops L g = some true := by rfl) : Kn σ0 L es ((mkS by_ x0 n c).bind f = some r0) (opsX P O ops m (⟨some d0, .makeSlice t x y, ty, ps, af, g⟩ :: l) K) := fun hp s σ hS hH => by
  obtain ⟨a, ha, hp⟩ := bind_some hp
  exact q_makeC hm hb hw hS hH hx hy he hz hby hzz ha fun t' σ' s' h1 h2 h3 => kk a t' ha h1 hp s' σ' h3 h2
theorem k_b2s {z : Bool} {wd : Nat} {x : Operand} {src dst e : TypeId} {t1 : T} {a : Sl (Iv .u8)} {f : ByteArray → Option γ} (i : Nat) (kk : ∀ y, strS a = some y → Kn σ0 ((d0, .str y) :: L) es (f y = some r0) (opsX P O ops (nxM m) l K)) (hx : gE (get L) x = some t1 := by rfl) (h1 : pickE i es = some (.own z wd t1 a.t, es') := by rfl) (hk : Nat.beq (kindT P dst) 3 = true := by kernel_rfl) (he : elemOfSl P src = some e := by rfl) (hke : Nat.beq (kindT P e) 10 = true := by kernel_rfl) (hq : m.seq = true := by rfl) (hw : want ops L g = some true := by rfl) : Kn σ0 L es ((strS a).bind f = some r0) (opsX P O ops m (⟨some d0, .convert src dst x, ty, ps, af, g⟩ :: l) K) := fun hp s σ hS hH => by
  obtain ⟨y, hy, hp⟩ := bind_some hp
  exact q_b2sC hq hw hS (hH.pick h1) hx hk he hke hy fun s' hS' => kk y hy hp s' σ hS' hH
end
end Go.Am
end
section
set_option linter.unusedVariables false
set_option linter.unusedSimpArgs false
namespace Go.Am
def A2 {α : Type} (R : α → α → Prop) : List α → List α → Prop
  | [], [] => True
  | x :: xs, y :: ys => R x y ∧ A2 R xs ys
  | _, _ => False
theorem A2.refl {α : Type} {R : α → α → Prop} : ∀ {l : List α}, (∀ x ∈ l, R x x) → A2 R l l
  | [], _ => trivial
  | x :: xs, h => ⟨h x (by simp), A2.refl (fun y hy => h y (by simp [hy]))⟩
theorem A2.len {α : Type} {R : α → α → Prop} : ∀ {l m : List α}, A2 R l m → l.length = m.length
  | [], [], _ => rfl
  | _ :: xs, _ :: ys, h => by simp [A2.len h.2]
  | [], _ :: _, h => h.elim
  | _ :: _, [], h => h.elim
theorem A2.drop {α : Type} {R : α → α → Prop} {l m : List α} {i : Nat} {x y : α} (hx : l[i]? = some x) (hy : m[i]? = some y) : A2 R (l.drop i) (m.drop i) ↔ R x y ∧ A2 R (l.drop (i + 1)) (m.drop (i + 1)) := by
  obtain ⟨h1, rfl⟩ := List.getElem?_eq_some_iff.1 hx
  obtain ⟨h2, rfl⟩ := List.getElem?_eq_some_iff.1 hy
  rw [List.drop_eq_getElem_cons h1, List.drop_eq_getElem_cons h2]
  exact Iff.rfl
theorem wrap_id {n : Int} (h0 : -9223372036854775808 ≤ n) (h1 : n < 9223372036854775808) : IntKind.i64.wrap n = n := by
  simp only [IntKind.wrap, IntKind.signed, IntKind.bits]
  simp
  omega
theorem elt_nat {α : Type} {s : Sl α} {i : Nat} {x : α} (h : s.l[i]? = some x) : elt s (i : Int) = some x := by
  simp [elt, h]
/- sizes -/
def SzOk (o : Option Int) (l : Int) (P : Prop) : Prop := o = some (-1) ∨ ∃ l', o = some l' ∧ 0 ≤ l' ∧ l' ≤ l ∧ P
theorem SzOk.imp {o : Option Int} {l m : Int} {P Q : Prop} (h : SzOk o l P) (hm : l ≤ m) (f : P → Q) : SzOk o m Q := by
  rcases h with h | ⟨l', h1, h2, h3, h4⟩
  · exact .inl h
  · exact .inr ⟨l', h1, h2, by omega, f h4⟩
/- copies -/
def FitS {α : Type} (n : Nat) (F : α → Prop) (s : Sl α) : Prop := s.l.length ≤ n ∧ ∀ x ∈ s.l, F x
/- comparisons, put together -/
def Steps (o : Option (Int ⊕ (Unit ⊕ Bool))) (i : Nat) (p : Prop) : Prop := (p → o = some (.inl (IntKind.i64.wrap ((i : Int) + 1)))) ∧ (¬ p → o = some (.inr (.inr false)))
end Go.Am
end
section
set_option linter.unusedVariables false
set_option linter.unusedSimpArgs false
namespace Go.Am
section
variable {P : Program} {t : TypeId} {d : Nat} {ts : List T}
theorem decAll {α : Type} [Enc α] {B : α → Prop} : ∀ (els : List (List T)), (∀ el ∈ els, ∃ x : α, el = Enc.cells x ∧ B x) → ∃ l : List α, els.flatten = cellsL l ∧ l.length = els.length ∧ ∀ x ∈ l, B x
  | [], _ => ⟨[], rfl, rfl, fun _ h => absurd h (by simp)⟩
  | el :: els, h => by
    obtain ⟨x, rfl, hx⟩ := h el (by simp)
    obtain ⟨l, h1, h2, h3⟩ := decAll els (fun e he => h e (by simp [he]))
    refine ⟨x :: l, by simp [cellsL, h1], by simp [h2], fun y hy => ?_⟩
    rcases List.mem_cons.1 hy with rfl | hy
    · exact hx
    · exact h3 y hy
theorem shp_sl {α : Type} [Enc α] {B : α → Prop} {e : TypeId} (kt : kindT P t = 4) (he : elemOfSl P t = some e) (hd : ∀ d ts, Shp P d e ts → ∃ x : α, ts = Enc.cells x ∧ B x) (h : Shp P d t ts) : ∃ x : Sl α, ts = [Sl.t x] ∧ FitS maxLen B x := by
  cases d with
  | zero => exact h.elim
  | succ d =>
    rcases h with h | h | h | h | h
    · rw [kt] at h; exact absurd h.1 (by decide)
    · simp [isIntT, kt] at h
    · rw [kt] at h; exact absurd h.1 (by decide)
    · obtain ⟨_, e', h1, h2⟩ := h
      rw [he] at h1
      injection h1 with h1; subst h1
      rcases h2 with rfl | ⟨els, rfl, h2, h3⟩
      · exact ⟨⟨true, []⟩, rfl, ⟨by simp, by simp⟩⟩
      · obtain ⟨l, q1, q2, q3⟩ := decAll (B := B) els (fun el hel => hd d el (h3 el hel).2)
        exact ⟨⟨false, l⟩, by simp [Sl.t, q1, q2], ⟨by show l.length ≤ maxLen; omega, q3⟩⟩
    · rw [kt] at h; exact absurd h.1 (by decide)
end
end Go.Am
end
section
set_option linter.unusedVariables false
set_option linter.unusedSimpArgs false
namespace Go.Am
theorem elt_lt {α : Type} {s : Sl α} {i : Nat} (h : i < s.l.length) : elt s (i : Int) = some s.l[i] := elt_nat (List.getElem?_eq_getElem h)
@[simp] theorem set_len {α : Type} {s : Sl α} {i : Int} {x : α} : (setS s i x).l.length = s.l.length := by simp [setS]
theorem wrapB {n : Int} (h0 : 0 ≤ n) (h1 : n ≤ 4611686018427387904) : IntKind.i64.wrap n = n := wrap_id (by omega) (by omega)
theorem maxLen_eq : maxLen = 9223372036854775807 := by decide
theorem loop_all {n : Nat} {R : Type} {p : Nat → Prop} {bd : Int → Option (Int ⊕ R)} {x y : R} (j0 : Nat) (hn : n < 9223372036854775807) (h1 : ∀ i : Nat, j0 ≤ i → i < n → p i → bd i = some (.inl (IntKind.i64.wrap ((i : Int) + 1)))) (h2 : ∀ i : Nat, j0 ≤ i → i < n → ¬ p i → bd i = some (.inr y)) :
    ((∀ i, j0 ≤ i → i < n → p i) → loopO (fun st1 : Int => if decide (st1 < (n : Int)) = true then bd st1 else some (.inr x)) (j0 : Int) = some x) ∧
    (¬ (∀ i, j0 ≤ i → i < n → p i) → loopO (fun st1 : Int => if decide (st1 < (n : Int)) = true then bd st1 else some (.inr x)) (j0 : Int) = some y) := by
  suffices H : ∀ k i0, j0 ≤ i0 → n - i0 = k → ((∀ i, i0 ≤ i → i < n → p i) → loopO (fun st1 : Int => if decide (st1 < (n : Int)) = true then bd st1 else some (.inr x)) (i0 : Int) = some x) ∧
    (¬ (∀ i, i0 ≤ i → i < n → p i) → loopO (fun st1 : Int => if decide (st1 < (n : Int)) = true then bd st1 else some (.inr x)) (i0 : Int) = some y) from H _ j0 (Nat.le_refl _) rfl
  intro k
  induction k with
  | zero =>
    intro i0 _ hk
    refine ⟨fun _ => loopO_stop (by rw [if_neg (by simp; omega)]), fun h => absurd (fun i h1 h2 => by omega) h⟩
  | succ k ih =>
    intro i0 hj hk
    have hlt : i0 < n := by omega
    obtain ⟨q1, q2⟩ := ih (i0 + 1) (by omega) (by omega)
    have hc : ((i0 + 1 : Nat) : Int) = (i0 : Int) + 1 := by simp
    rw [hc] at q1 q2
    by_cases hp : p i0
    · have hb := h1 i0 hj hlt hp
      rw [wrap_id (by omega) (by omega)] at hb
      refine ⟨fun h => loopO_go (by rw [if_pos (by simp; omega)]; exact hb) (q1 fun i hi hn => h i (by omega) hn), fun h => loopO_go (by rw [if_pos (by simp; omega)]; exact hb) (q2 fun w => h fun i hi hn => ?_)⟩
      by_cases e : i = i0
      · subst e; exact hp
      · exact w i (by omega) hn
    · refine ⟨fun h => absurd (h i0 (Nat.le_refl _) hlt) hp, fun _ => loopO_stop (by rw [if_pos (by simp; omega)]; exact h2 i0 hj hlt hp)⟩
theorem loop_find {n : Nat} {p : Nat → Prop} {bd : Int → Option (Int ⊕ Int)} (hn : n < 9223372036854775807) (h1 : ∀ i : Nat, i < n → p i → bd i = some (.inl (IntKind.i64.wrap ((i : Int) + 1)))) (h2 : ∀ i : Nat, i < n → ¬ p i → bd i = some (.inr (i : Int))) :
    ∃ r : Nat, r ≤ n ∧ loopO (fun st1 : Int => if decide (st1 < (n : Int)) = true then bd st1 else some (.inr st1)) 0 = some (r : Int) ∧ (r = n ↔ ∀ i, i < n → p i) := by
  suffices H : ∀ k i0, n - i0 = k → i0 ≤ n → (∀ i, i < i0 → p i) → ∃ r : Nat, r ≤ n ∧ loopO (fun st1 : Int => if decide (st1 < (n : Int)) = true then bd st1 else some (.inr st1)) (i0 : Int) = some (r : Int) ∧ (r = n ↔ ∀ i, i < n → p i) from H n 0 (by omega) (by omega) (by intro i h; omega)
  intro k
  induction k with
  | zero =>
    intro i0 hk hle hp
    have : i0 = n := by omega
    subst this
    exact ⟨i0, Nat.le_refl _, loopO_stop (by rw [if_neg (by simp)]), by simpa using hp⟩
  | succ k ih =>
    intro i0 hk hle hp
    have hlt : i0 < n := by omega
    by_cases hq : p i0
    · obtain ⟨r, r1, r2, r3⟩ := ih (i0 + 1) (by omega) (by omega) fun i hi => by
        by_cases e : i = i0
        · subst e; exact hq
        · exact hp i (by omega)
      have hb := h1 i0 hlt hq
      rw [wrap_id (by omega) (by omega)] at hb
      have hc : ((i0 + 1 : Nat) : Int) = (i0 : Int) + 1 := by simp
      rw [hc] at r2
      exact ⟨r, r1, loopO_go (by rw [if_pos (by simp; omega)]; exact hb) r2, r3⟩
    · exact ⟨i0, hle, loopO_stop (by rw [if_pos (by simp; omega)]; exact h2 i0 hlt hq), ⟨fun e => by omega, fun w => absurd (w i0 hlt) hq⟩⟩
noncomputable def says (p : Prop) : Bool := @decide p (Classical.propDecidable p)
theorem says_iff' {p q : Prop} (h : p ↔ q) : says p = says q := by rw [propext h]
theorem says_t {p : Prop} (h : p) : says p = true := by simp [says, h]
theorem says_f {p : Prop} (h : ¬ p) : says p = false := by simp [says, h]
theorem s_and {c p : Prop} [Decidable c] {K : Option Bool} (h : c → K = some (says p)) : (if decide c = true then K else some false) = some (says (c ∧ p)) := by
  by_cases hc : c
  · rw [if_pos (by simp [hc]), h hc]; congr 1; exact says_iff' ⟨fun w => ⟨hc, w⟩, fun w => w.2⟩
  · rw [if_neg (by simp [hc]), says_f fun w => hc w.1]
theorem s_gt {a b : Int} {p : Prop} {K : Option Bool} (h : b ≤ a → K = some (says p)) : (if decide (a < b) = true then some false else K) = some (says (b ≤ a ∧ p)) := by
  by_cases hc : a < b
  · rw [if_pos (by simp [hc]), says_f fun w => by omega]
  · rw [if_neg (by simp [hc]), h (by omega)]; congr 1; exact says_iff' ⟨fun w => ⟨by omega, w⟩, fun w => w.2⟩
theorem s_bindn {c p : Prop} {o K : Option Bool} (ho : o = some (says c)) (h : c → K = some (says p)) : (o.bind fun y => if (!y) = true then some false else K) = some (says (c ∧ p)) := by
  rw [ho, Option.bind_some]
  by_cases hc : c
  · rw [says_t hc, if_neg (by simp), h hc]; congr 1; exact says_iff' ⟨fun w => ⟨hc, w⟩, fun w => w.2⟩
  · rw [says_f hc, if_pos (by simp), says_f fun w => hc w.1]
theorem s_bind {c p : Prop} {o K : Option Bool} (ho : o = some (says c)) (h : c → K = some (says p)) : (o.bind fun y => if y = true then K else some false) = some (says (c ∧ p)) := by
  rw [ho, Option.bind_some]
  by_cases hc : c
  · rw [says_t hc, if_pos rfl, h hc]; congr 1; exact says_iff' ⟨fun w => ⟨hc, w⟩, fun w => w.2⟩
  · rw [says_f hc, if_neg (by simp), says_f fun w => hc w.1]
theorem s_bindor {c p : Prop} {o K : Option Bool} (ho : o = some (says c)) (h : ¬ c → K = some (says p)) : (o.bind fun y => if y = true then some true else K) = some (says (c ∨ p)) := by
  rw [ho, Option.bind_some]
  by_cases hc : c
  · rw [says_t hc, if_pos rfl, says_t (.inl hc)]
  · rw [says_f hc, if_neg (by simp), h hc]; congr 1; exact says_iff' ⟨fun w => .inr w, fun w => w.resolve_left hc⟩
theorem s_or {c p : Prop} [Decidable c] {K : Option Bool} (h : ¬ c → K = some (says p)) : (if decide c = true then some true else K) = some (says (c ∨ p)) := by
  by_cases hc : c
  · rw [if_pos (by simp [hc]), says_t (.inl hc)]
  · rw [if_neg (by simp [hc]), h hc]; congr 1; exact says_iff' ⟨fun w => .inr w, fun w => w.resolve_left hc⟩
theorem s_last {c : Prop} {o : Option Bool} (ho : o = some (says c)) : (o.bind fun y => some y) = some (says c) := by rw [ho]; rfl
theorem s_dec {c : Prop} [Decidable c] : some (decide c) = some (says c) := by by_cases h : c <;> simp [says, h]
theorem s_iff {o : Option Bool} {p q : Prop} (h : o = some (says p)) (hi : p ↔ q) : o = some (says q) := by rw [h, says_iff' hi]
theorem loop_allB {n : Nat} {p : Nat → Prop} {bd : Int → Option (Int ⊕ (Unit ⊕ Bool))} (i0 : Nat) (hn : n < 9223372036854775807) (h1 : ∀ i : Nat, i0 ≤ i → i < n → p i → bd i = some (.inl (IntKind.i64.wrap ((i : Int) + 1)))) (h2 : ∀ i : Nat, i0 ≤ i → i < n → ¬ p i → bd i = some (.inr (.inr false))) :
    ((loopO (S := Int) (R := Unit ⊕ Bool) (fun st1 : Int => if decide (st1 < (n : Int)) = true then bd st1 else some (.inr (.inl ()))) (i0 : Int)).bind fun y => Sum.elim (fun _ => some true) (fun y => some y) y) = some (says (∀ i, i0 ≤ i → i < n → p i)) := by
  obtain ⟨q1, q2⟩ := loop_all (R := Unit ⊕ Bool) (x := .inl ()) (y := .inr false) i0 hn h1 h2
  by_cases h : ∀ i, i0 ≤ i → i < n → p i
  · rw [q1 h, says_t h]; rfl
  · rw [q2 h, says_f h]; rfl
theorem loop_allS {α : Type} {a : Sl α} {p : α → Prop} {bd : Int → Option (Int ⊕ (Unit ⊕ Bool))} (hn : a.l.length < 9223372036854775807) (h : ∀ (i : Nat) x, x ∈ a.l → elt a (i : Int) = some x → (p x → bd i = some (.inl (IntKind.i64.wrap ((i : Int) + 1)))) ∧ (¬ p x → bd i = some (.inr (.inr false)))) :
    ((loopO (S := Int) (R := Unit ⊕ Bool) (fun st1 : Int => if decide (st1 < (a.l.length : Int)) = true then bd st1 else some (.inr (.inl ()))) 0).bind fun y => Sum.elim (fun _ => some true) (fun y => some y) y) = some (says (∀ x ∈ a.l, p x)) := by
  have := loop_allB (p := fun i => ∀ x, a.l[i]? = some x → p x) (bd := bd) 0 hn (fun i _ hi hp => (h i _ (List.getElem_mem hi) (elt_lt hi)).1 (hp _ (List.getElem?_eq_getElem hi))) (fun i _ hi hp => (h i _ (List.getElem_mem hi) (elt_lt hi)).2 fun q => hp fun x hx => by rw [List.getElem?_eq_getElem hi] at hx; injection hx with hx; exact hx ▸ q)
  refine Eq.trans this (congrArg some (says_iff' ⟨fun w x hx => ?_, fun w i _ hi x hx => w x (List.mem_of_getElem? hx)⟩))
  obtain ⟨i, hi, rfl⟩ := List.getElem_of_mem hx
  exact w i (Nat.zero_le _) hi _ (List.getElem?_eq_getElem hi)
def MH {α : Type} (B : α → Int → Option (Int × α)) (F : α → Int → Option Int) (N : Nat) (x : α) : Prop :=
  ∀ k : Int, 0 ≤ k → k + N ≤ 4611686018427387904 → ∃ k' x', B x k = some (k', x') ∧ F x' k = some k' ∧ k ≤ k' ∧ k' ≤ k + N
theorem MH.mono {α : Type} {B : α → Int → Option (Int × α)} {F : α → Int → Option Int} {N M : Nat} {x : α} (h : MH B F N x) (hm : N ≤ M) : MH B F M x := fun k h0 h1 => by
  obtain ⟨k', x', q1, q2, q3, q4⟩ := h k h0 (by omega)
  exact ⟨k', x', q1, q2, q3, by omega⟩
theorem appS_new {α : Type} {by_ : Nat} {z : Bool} {a : List α} {x : α} (h : (a.length + 1) * by_ ≤ 1099511627776) : appS by_ (⟨z, a⟩ : Sl α) ⟨false, [x]⟩ = some ⟨false, a ++ [x]⟩ := by
  simp only [appS, List.length_singleton]; rw [if_pos h]
theorem appS_all {α : Type} {by_ : Nat} {a : Sl α} (h : a.l.length * by_ ≤ 1099511627776) : appS by_ (⟨false, []⟩ : Sl α) a = some ⟨false, a.l⟩ := by
  obtain ⟨z, l⟩ := a
  cases l with
  | nil => rfl
  | cons x l => simp only [appS, List.length_nil, Nat.zero_add, List.nil_append]; rw [if_pos h]
theorem loop_app {α β : Type} (f : α → β) {a : Sl α} {body : Int × Sl β → Option ((Int × Sl β) ⊕ Sl β)} (hn : a.l.length < 9223372036854775807)
    (h1 : ∀ (i : Nat) x (s : Sl β), x ∈ a.l → i < a.l.length → s.l.length = i → elt a (i : Int) = some x → body (i, s) = some (.inl ((i : Int) + 1, ⟨false, s.l ++ [f x]⟩)))
    (h2 : ∀ s, body ((a.l.length : Int), s) = some (.inr s)) : loopO body (0, ⟨true, []⟩) = some ⟨a.l.isEmpty, a.l.map f⟩ := by
  suffices H : ∀ (k i : Nat), i + k = a.l.length → ∀ s : Sl β, s.l = (a.l.take i).map f → s.z = (a.l.take i).isEmpty → loopO body ((i : Int), s) = some ⟨a.l.isEmpty, a.l.map f⟩ by
    exact H a.l.length 0 (by simp) ⟨true, []⟩ rfl rfl
  intro k
  induction k with
  | zero =>
    intro i hi s hs hz
    have : i = a.l.length := by omega
    subst this
    rw [loopO_stop (h2 s)]
    obtain ⟨sz, sl⟩ := s
    simp only [List.take_length] at hs hz
    rw [hs, hz]
  | succ k ih =>
    intro i hi s hs hz
    have ha : i < a.l.length := by omega
    have q1 := h1 i a.l[i] s (List.getElem_mem ha) ha (by rw [hs]; simp; omega) (elt_lt ha)
    have ht : a.l.take (i + 1) = a.l.take i ++ [a.l[i]] := by rw [List.take_add_one, List.getElem?_eq_getElem ha]; rfl
    have p1 := ih (i + 1) (by omega) ⟨false, s.l ++ [f a.l[i]]⟩ (by rw [ht, List.map_append, hs]; rfl) (by rw [ht]; cases a.l.take i <;> rfl)
    have hc : ((i + 1 : Nat) : Int) = (i : Int) + 1 := by simp
    rw [hc] at p1
    exact loopO_go q1 p1
end Go.Am
end
