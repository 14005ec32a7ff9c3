/- The law. -/
import Derived.Test.YtnabmjlpdcpaeaaAl0
import Derived.Test.YtnabmjlpdcpaeaaAg1
import Derived.Test.YtnabmjlpdcpaeaaAg8
import Derived.Test.YtnabmjlpdcpaeaaAg6
import Derived.Test.YtnabmjlpdcpaeaaAg4
import Derived.Test.YtnabmjlpdcpaeaaAg2
import Derived.Test.YtnabmjlpdcpaeaaAg5
import Derived.Test.YtnabmjlpdcpaeaaAg7
import Derived.Test.YtnabmjlpdcpaeaaAg3
section
set_option maxHeartbeats 1000000
set_option linter.unusedVariables false
set_option linter.unusedSimpArgs false
namespace Go.Am
theorem q_laws_eqStringS {a b : Sl ByteArray} (ha : FitS 1048576 (FitString 1048576) a) (hb : FitS 1048576 (FitString 1048576) b) : F_laws_eqStringS a b = tell (A2 EqString a.l b.l) := by
  refine u_laws_eqStringS a b _ ?_
  unfold B_laws_eqStringS
  exact says_len (says_ifn fun hl => says_loop hl (Nat.le_trans ha.1 (by decide)) (fun i x y hx hy ex ey => ⟨_, and_iff_left trivial, st_elt ex (st_elt ey (st_ifn fun _ => st_end))⟩) says_true)
theorem q_laws_eqValue {a b : DValue} (ha : FitValue 1048576 a) (hb : FitValue 1048576 b) : F_laws_eqValue a b = tell (EqValue a b) := by
  refine u_laws_eqValue a b _ ?_
  unfold B_laws_eqValue
  exact says_iff (says_ifn fun _ => (says_ifn fun _ => (says_ifn fun _ => (says_ifn fun _ => says_true)))) (by simp only [EqValue, EqString, and_true, and_assoc]; first | done | exact ⟨fun h => by simp only [h, and_self], fun h => by simp only [h, and_self]⟩ | exact ⟨fun h => by simp [h], fun h => by simp [h]⟩)
theorem q_laws_eqValueS {a b : Sl DValue} (ha : FitS 1048576 (FitValue 1048576) a) (hb : FitS 1048576 (FitValue 1048576) b) : F_laws_eqValueS a b = tell (A2 EqValue a.l b.l) := by
  refine u_laws_eqValueS a b _ ?_
  unfold B_laws_eqValueS
  exact says_len (says_ifn fun hl => says_loop hl (Nat.le_trans ha.1 (by decide)) (fun i x y hx hy ex ey => ⟨_, and_iff_left trivial, st_elt ex (st_elt ey (st_bindn (q_laws_eqValue (ha.2 x hx) (hb.2 y hy)) fun _ => st_end))⟩) says_true)
theorem q_laws_eqObject {a b : DObject} (ha : FitObject 1048576 a) (hb : FitObject 1048576 b) : F_laws_eqObject a b = tell (EqObject a b) := by
  obtain ⟨f0, f1, f2, _⟩ := ha
  obtain ⟨g0, g1, g2, _⟩ := hb
  refine u_laws_eqObject a b _ ?_
  unfold B_laws_eqObject
  exact says_iff (says_ifn fun _ => (says_ifn fun _ => (says_ifn fun _ => (says_ifn fun _ => (says_bindn (q_laws_eqValueS (by assumption) (by assumption)) fun _ => (says_bindn (q_laws_eqValueS (by assumption) (by assumption)) fun _ => (says_bindn (q_laws_eqValue (by assumption) (by assumption)) fun _ => says_true))))))) (by simp only [EqObject, EqString, and_true, and_assoc]; first | done | exact ⟨fun h => by simp only [h, and_self], fun h => by simp only [h, and_self]⟩ | exact ⟨fun h => by simp [h], fun h => by simp [h]⟩)
theorem q_laws_eqObjectS {a b : Sl DObject} (ha : FitS 1048576 (FitObject 1048576) a) (hb : FitS 1048576 (FitObject 1048576) b) : F_laws_eqObjectS a b = tell (A2 EqObject a.l b.l) := by
  refine u_laws_eqObjectS a b _ ?_
  unfold B_laws_eqObjectS
  exact says_len (says_ifn fun hl => says_loop hl (Nat.le_trans ha.1 (by decide)) (fun i x y hx hy ex ey => ⟨_, and_iff_left trivial, st_elt ex (st_elt ey (st_bindn (q_laws_eqObject (ha.2 x hx) (hb.2 y hy)) fun _ => st_end))⟩) says_true)
theorem q_laws_eqBinding {a b : DBinding} (ha : FitBinding 1048576 a) (hb : FitBinding 1048576 b) : F_laws_eqBinding a b = tell (EqBinding a b) := by
  obtain ⟨f0, _⟩ := ha
  obtain ⟨g0, _⟩ := hb
  refine u_laws_eqBinding a b _ ?_
  unfold B_laws_eqBinding
  exact says_iff (says_ifn fun _ => (says_bindn (q_laws_eqValue (by assumption) (by assumption)) fun _ => says_true)) (by simp only [EqBinding, EqString, and_true, and_assoc]; first | done | exact ⟨fun h => by simp only [h, and_self], fun h => by simp only [h, and_self]⟩ | exact ⟨fun h => by simp [h], fun h => by simp [h]⟩)
theorem q_laws_eqBindingS {a b : Sl DBinding} (ha : FitS 1048576 (FitBinding 1048576) a) (hb : FitS 1048576 (FitBinding 1048576) b) : F_laws_eqBindingS a b = tell (A2 EqBinding a.l b.l) := by
  refine u_laws_eqBindingS a b _ ?_
  unfold B_laws_eqBindingS
  exact says_len (says_ifn fun hl => says_loop hl (Nat.le_trans ha.1 (by decide)) (fun i x y hx hy ex ey => ⟨_, and_iff_left trivial, st_elt ex (st_elt ey (st_bindn (q_laws_eqBinding (ha.2 x hx) (hb.2 y hy)) fun _ => st_end))⟩) says_true)
theorem q_laws_eqFunction {a b : DFunction} (ha : FitFunction 1048576 a) (hb : FitFunction 1048576 b) : F_laws_eqFunction a b = tell (EqFunction a b) := by
  obtain ⟨f0, f1, _⟩ := ha
  obtain ⟨g0, g1, _⟩ := hb
  refine u_laws_eqFunction a b _ ?_
  unfold B_laws_eqFunction
  exact says_iff (says_ifn fun _ => (says_bindn (q_laws_eqStringS (by assumption) (by assumption)) fun _ => (says_bindn (q_laws_eqStringS (by assumption) (by assumption)) fun _ => (says_ifn fun _ => says_true)))) (by simp only [EqFunction, EqString, and_true, and_assoc]; first | done | exact ⟨fun h => by simp only [h, and_self], fun h => by simp only [h, and_self]⟩ | exact ⟨fun h => by simp [h], fun h => by simp [h]⟩)
theorem q_laws_eqFunctionS {a b : Sl DFunction} (ha : FitS 1048576 (FitFunction 1048576) a) (hb : FitS 1048576 (FitFunction 1048576) b) : F_laws_eqFunctionS a b = tell (A2 EqFunction a.l b.l) := by
  refine u_laws_eqFunctionS a b _ ?_
  unfold B_laws_eqFunctionS
  exact says_len (says_ifn fun hl => says_loop hl (Nat.le_trans ha.1 (by decide)) (fun i x y hx hy ex ey => ⟨_, and_iff_left trivial, st_elt ex (st_elt ey (st_bindn (q_laws_eqFunction (ha.2 x hx) (hb.2 y hy)) fun _ => st_end))⟩) says_true)
theorem q_laws_eqRecordType {a b : DRecordType} (ha : FitRecordType 1048576 a) (hb : FitRecordType 1048576 b) : F_laws_eqRecordType a b = tell (EqRecordType a b) := by
  obtain ⟨f0, _⟩ := ha
  obtain ⟨g0, _⟩ := hb
  refine u_laws_eqRecordType a b _ ?_
  unfold B_laws_eqRecordType
  exact says_iff (says_ifn fun _ => (says_bindn (q_laws_eqStringS (by assumption) (by assumption)) fun _ => says_true)) (by simp only [EqRecordType, EqString, and_true, and_assoc]; first | done | exact ⟨fun h => by simp only [h, and_self], fun h => by simp only [h, and_self]⟩ | exact ⟨fun h => by simp [h], fun h => by simp [h]⟩)
theorem q_laws_eqRecordTypeS {a b : Sl DRecordType} (ha : FitS 1048576 (FitRecordType 1048576) a) (hb : FitS 1048576 (FitRecordType 1048576) b) : F_laws_eqRecordTypeS a b = tell (A2 EqRecordType a.l b.l) := by
  refine u_laws_eqRecordTypeS a b _ ?_
  unfold B_laws_eqRecordTypeS
  exact says_len (says_ifn fun hl => says_loop hl (Nat.le_trans ha.1 (by decide)) (fun i x y hx hy ex ey => ⟨_, and_iff_left trivial, st_elt ex (st_elt ey (st_bindn (q_laws_eqRecordType (ha.2 x hx) (hb.2 y hy)) fun _ => st_end))⟩) says_true)
theorem q_laws_eqFile {a b : DFile} (ha : FitFile 1048576 a) (hb : FitFile 1048576 b) : F_laws_eqFile a b = tell (EqFile a b) := by
  obtain ⟨f0, _⟩ := ha
  obtain ⟨g0, _⟩ := hb
  refine u_laws_eqFile a b _ ?_
  unfold B_laws_eqFile
  exact says_iff (says_ifn fun _ => (says_bindn (q_laws_eqStringS (by assumption) (by assumption)) fun _ => (says_ifn fun _ => (says_ifn fun _ => says_true)))) (by simp only [EqFile, EqString, and_true, and_assoc]; first | done | exact ⟨fun h => by simp only [h, and_self], fun h => by simp only [h, and_self]⟩ | exact ⟨fun h => by simp [h], fun h => by simp [h]⟩)
theorem q_laws_eqFileS {a b : Sl DFile} (ha : FitS 1048576 (FitFile 1048576) a) (hb : FitS 1048576 (FitFile 1048576) b) : F_laws_eqFileS a b = tell (A2 EqFile a.l b.l) := by
  refine u_laws_eqFileS a b _ ?_
  unfold B_laws_eqFileS
  exact says_len (says_ifn fun hl => says_loop hl (Nat.le_trans ha.1 (by decide)) (fun i x y hx hy ex ey => ⟨_, and_iff_left trivial, st_elt ex (st_elt ey (st_bindn (q_laws_eqFile (ha.2 x hx) (hb.2 y hy)) fun _ => st_end))⟩) says_true)
theorem q_laws_eqHeap {a b : DHeap} (ha : FitHeap 1048576 a) (hb : FitHeap 1048576 b) : F_laws_eqHeap a b = tell (EqHeap a b) := by
  obtain ⟨f0, _⟩ := ha
  obtain ⟨g0, _⟩ := hb
  refine u_laws_eqHeap a b _ ?_
  unfold B_laws_eqHeap
  exact says_iff (says_ifn fun _ => (says_bindn (q_laws_eqObjectS (by assumption) (by assumption)) fun _ => says_true)) (by simp only [EqHeap, EqString, and_true, and_assoc]; first | done | exact ⟨fun h => by simp only [h, and_self], fun h => by simp only [h, and_self]⟩ | exact ⟨fun h => by simp [h], fun h => by simp [h]⟩)
theorem q_laws_eqScope {a b : DScope} (ha : FitScope 1048576 a) (hb : FitScope 1048576 b) : F_laws_eqScope a b = tell (EqScope a b) := by
  obtain ⟨f0, f1, f2, _⟩ := ha
  obtain ⟨g0, g1, g2, _⟩ := hb
  refine u_laws_eqScope a b _ ?_
  unfold B_laws_eqScope
  exact says_iff (says_bindn (q_laws_eqBindingS (by assumption) (by assumption)) fun _ => (says_bindn (q_laws_eqFunctionS (by assumption) (by assumption)) fun _ => (says_bindn (q_laws_eqRecordTypeS (by assumption) (by assumption)) fun _ => says_true))) (by simp only [EqScope, EqString, and_true, and_assoc]; first | done | exact ⟨fun h => by simp only [h, and_self], fun h => by simp only [h, and_self]⟩ | exact ⟨fun h => by simp [h], fun h => by simp [h]⟩)
theorem q_laws_eqConsole {a b : DConsole} (ha : FitConsole 1048576 a) (hb : FitConsole 1048576 b) : F_laws_eqConsole a b = tell (EqConsole a b) := by
  obtain ⟨f0, f1, f2, f3, _⟩ := ha
  obtain ⟨g0, g1, g2, g3, _⟩ := hb
  refine u_laws_eqConsole a b _ ?_
  unfold B_laws_eqConsole
  exact says_iff (says_bindn (q_laws_eqStringS (by assumption) (by assumption)) fun _ => (says_ifn fun _ => (says_bindn (q_laws_eqStringS (by assumption) (by assumption)) fun _ => (says_bindn (q_laws_eqFileS (by assumption) (by assumption)) fun _ => (says_bindn (q_laws_eqStringS (by assumption) (by assumption)) fun _ => says_true))))) (by simp only [EqConsole, EqString, and_true, and_assoc]; first | done | exact ⟨fun h => by simp only [h, and_self], fun h => by simp only [h, and_self]⟩ | exact ⟨fun h => by simp [h], fun h => by simp [h]⟩)
theorem q_laws_eqMemory {a b : DMemory} (ha : FitMemory 1048576 a) (hb : FitMemory 1048576 b) : F_laws_eqMemory a b = tell (EqMemory a b) := by
  obtain ⟨f0, f1, f2, _⟩ := ha
  obtain ⟨g0, g1, g2, _⟩ := hb
  refine u_laws_eqMemory a b _ ?_
  unfold B_laws_eqMemory
  exact says_iff (says_bindn (q_laws_eqHeap (by assumption) (by assumption)) fun _ => (says_bindn (q_laws_eqScope (by assumption) (by assumption)) fun _ => (says_bindn (q_laws_eqConsole (by assumption) (by assumption)) fun _ => says_true))) (by simp only [EqMemory, EqString, and_true, and_assoc]; first | done | exact ⟨fun h => by simp only [h, and_self], fun h => by simp only [h, and_self]⟩ | exact ⟨fun h => by simp [h], fun h => by simp [h]⟩)
theorem q_laws_eqDesk {a b : DDesk} (ha : FitDesk 1048576 a) (hb : FitDesk 1048576 b) : F_laws_eqDesk a b = tell (EqDesk a b) := by
  obtain ⟨f0, f1, f2, _⟩ := ha
  obtain ⟨g0, g1, g2, _⟩ := hb
  refine u_laws_eqDesk a b _ ?_
  unfold B_laws_eqDesk
  exact says_iff (says_bindn (q_laws_eqStringS (by assumption) (by assumption)) fun _ => (says_bindn (q_laws_eqStringS (by assumption) (by assumption)) fun _ => (says_bindn (q_laws_eqMemory (by assumption) (by assumption)) fun _ => (says_ifn fun _ => (says_ifn fun _ => (says_ifn fun _ => (says_ifn fun _ => says_true))))))) (by simp only [EqDesk, EqString, and_true, and_assoc]; first | done | exact ⟨fun h => by simp only [h, and_self], fun h => by simp only [h, and_self]⟩ | exact ⟨fun h => by simp [h], fun h => by simp [h]⟩)
theorem q_spec_l21SameTexts {a b : Sl ByteArray} (ha : FitS 1048576 (FitString 1048576) a) (hb : FitS 1048576 (FitString 1048576) b) : F_spec_l21SameTexts a b = tell (A2 EqString a.l b.l) := by
  refine u_spec_l21SameTexts a b _ ?_
  unfold B_spec_l21SameTexts
  exact says_len (says_ifn fun hl => says_loop hl (Nat.le_trans ha.1 (by decide)) (fun i x y hx hy ex ey => ⟨_, and_iff_left trivial, st_elt ex (st_elt ey (st_ifn fun _ => st_end))⟩) says_true)
theorem q_spec_l18SameTexts {a b : Sl ByteArray} (ha : FitS 1048576 (FitString 1048576) a) (hb : FitS 1048576 (FitString 1048576) b) : F_spec_l18SameTexts a b = tell (A2 EqString a.l b.l) := by
  refine u_spec_l18SameTexts a b _ ?_
  unfold B_spec_l18SameTexts
  exact says_len (says_ifn fun hl => says_loop hl (Nat.le_trans ha.1 (by decide)) (fun i x y hx hy ex ey => ⟨_, and_iff_left trivial, st_elt ex (st_elt ey (st_ifn fun _ => st_end))⟩) says_true)
theorem q_spec_l07SameValues {a b : Sl DValue} (ha : FitS 1048576 (FitValue 1048576) a) (hb : FitS 1048576 (FitValue 1048576) b) : F_spec_l07SameValues a b = tell (A2 EqValue a.l b.l) := by
  refine u_spec_l07SameValues a b _ ?_
  unfold B_spec_l07SameValues
  exact says_len (says_ifn fun hl => says_loop hl (Nat.le_trans ha.1 (by decide)) (fun i x y hx hy ex ey => ⟨_, and_iff_left trivial, st_elt ex (st_elt ey (st_ifnb (by simp [EqValue, EqValue]) fun _ => st_end))⟩) says_true)
theorem q_spec_l18SameBindings {a b : Sl DBinding} (ha : FitS 1048576 (FitBinding 1048576) a) (hb : FitS 1048576 (FitBinding 1048576) b) : F_spec_l18SameBindings a b = tell (A2 EqBinding a.l b.l) := by
  refine u_spec_l18SameBindings a b _ ?_
  unfold B_spec_l18SameBindings
  exact says_len (says_ifn fun hl => says_loop hl (Nat.le_trans ha.1 (by decide)) (fun i x y hx hy ex ey => ⟨_, and_iff_left trivial, st_elt ex (st_elt ey (st_ifnb (by simp [EqBinding, EqValue]) fun _ => st_end))⟩) says_true)
theorem q_spec_l07SameObject {a b : DObject} (ha : FitObject 1048576 a) (hb : FitObject 1048576 b) : F_spec_l07SameObject a b = tell (EqObject a b) := by
  obtain ⟨f0, f1, f2, _⟩ := ha
  obtain ⟨g0, g1, g2, _⟩ := hb
  refine u_spec_l07SameObject a b _ ?_
  unfold B_spec_l07SameObject
  exact says_iff (says_if fun _ => (says_if fun _ => (says_if fun _ => (says_if fun _ => (says_bind (q_spec_l07SameValues (by assumption) (by assumption)) fun _ => (says_bind (q_spec_l07SameValues (by assumption) (by assumption)) fun _ => (says_b (c := EqValue a.Default b.Default) (by simp [EqValue])))))))) (by simp only [EqObject, EqString, and_true, and_assoc]; first | done | exact ⟨fun h => by simp only [h, and_self], fun h => by simp only [h, and_self]⟩ | exact ⟨fun h => by simp [h], fun h => by simp [h]⟩)
theorem q_spec_l21SameFile {a b : DFile} (ha : FitFile 1048576 a) (hb : FitFile 1048576 b) : F_spec_l21SameFile a b = tell (EqFile a b) := by
  obtain ⟨f0, _⟩ := ha
  obtain ⟨g0, _⟩ := hb
  refine u_spec_l21SameFile a b _ ?_
  unfold B_spec_l21SameFile
  exact says_iff (says_if fun _ => (says_bind (q_spec_l21SameTexts (by assumption) (by assumption)) fun _ => (says_if fun _ => says_dec))) (by simp only [EqFile, EqString, and_true, and_assoc]; first | done | exact ⟨fun h => by simp only [h, and_self], fun h => by simp only [h, and_self]⟩ | exact ⟨fun h => by simp [h], fun h => by simp [h]⟩)
theorem q_spec_l07Same {a b : DHeap} (ha : FitHeap 1048576 a) (hb : FitHeap 1048576 b) : F_spec_l07Same a b = tell (EqHeap a b) := by
  obtain ⟨f0, _⟩ := ha
  obtain ⟨g0, _⟩ := hb
  refine u_spec_l07Same a b _ ?_
  unfold B_spec_l07Same
  exact says_iff (says_ifn fun _ => says_len (says_ifn fun hl => says_loop hl (Nat.le_trans f0.1 (by decide)) (fun i x y hx hy ex ey => ⟨_, and_iff_left trivial, st_elt ex (st_elt ey (st_bindn (q_spec_l07SameObject (f0.2 x hx) (g0.2 y hy)) fun _ => st_end))⟩) says_true)) (by simp only [EqHeap, EqString, and_true, and_assoc]; first | done | exact ⟨fun h => by simp only [h, and_self], fun h => by simp only [h, and_self]⟩ | exact ⟨fun h => by simp [h], fun h => by simp [h]⟩)
theorem q_spec_SameHeap {a b : DHeap} (ha : FitHeap 1048576 a) (hb : FitHeap 1048576 b) : F_spec_SameHeap a b = tell (EqHeap a b) := by
  obtain ⟨f0, _⟩ := ha
  obtain ⟨g0, _⟩ := hb
  refine u_spec_SameHeap a b _ ?_
  unfold B_spec_SameHeap
  exact says_iff (says_last (q_spec_l07Same (a := a) (b := b) ⟨f0, trivial⟩ ⟨g0, trivial⟩)) (by simp only [EqHeap, EqString, and_true, and_assoc]; first | done | exact ⟨fun h => by simp only [h, and_self], fun h => by simp only [h, and_self]⟩ | exact ⟨fun h => by simp [h], fun h => by simp [h]⟩)
theorem len_A2 {α : Type} {R : α → α → Prop} {l m : List α} {p q r : Prop} (h : p ↔ (q ∧ A2 R l m ∧ r)) : ((l.length : Int) = (m.length : Int) ∧ p) ↔ (q ∧ A2 R l m ∧ r) := by
  rw [h]; exact ⟨fun w => w.2, fun w => ⟨by rw [A2.len w.2.1], w⟩⟩
theorem fn_iff {x y : DFunction} : (x.Name = y.Name ∧ x.Label = y.Label ∧ A2 EqString x.Params.l y.Params.l ∧ A2 EqString x.Locals.l y.Locals.l ∧ True) ↔ EqFunction x y := by simp only [EqFunction, and_true]; exact ⟨fun h => ⟨h.1, h.2.2.1, h.2.2.2, h.2.1⟩, fun h => ⟨h.1, h.2.2.2, h.2.1, h.2.2.1⟩⟩
theorem rt_iff {x y : DRecordType} : (x.Name = y.Name ∧ A2 EqString x.Fields.l y.Fields.l ∧ True) ↔ EqRecordType x y := by simp [EqRecordType]
theorem q_spec_SameScope {a b : DScope} (ha : FitScope 1048576 a) (hb : FitScope 1048576 b) : F_spec_SameScope a b = tell (EqScope a b) := by
  obtain ⟨f0, f1, f2, _⟩ := ha
  obtain ⟨g0, g1, g2, _⟩ := hb
  refine u_spec_SameScope a b _ ?_
  unfold B_spec_SameScope
  exact says_iff (says_bindn (q_spec_l18SameBindings f0 g0) fun _ => says_ifn fun hl => says_ifn fun hl2 => says_loop (R := EqFunction) hl (Nat.le_trans f1.1 (by decide)) (fun i x y hx hy ex ey => ⟨_, fn_iff, st_elt ex (st_elt ey (st_ifn fun _ => st_ifn fun _ => st_bindn (q_spec_l18SameTexts (f1.2 x hx).1 (g1.2 y hy).1) fun _ => st_bindn (q_spec_l18SameTexts (f1.2 x hx).2.1 (g1.2 y hy).2.1) fun _ => st_end))⟩) (says_loop (R := EqRecordType) hl2 (Nat.le_trans f2.1 (by decide)) (fun i x y hx hy ex ey => ⟨_, rt_iff, st_elt ex (st_elt ey (st_ifn fun _ => st_elt ex (st_elt ey (st_bindn (q_spec_l18SameTexts (f2.2 x hx).1 (g2.2 y hy).1) fun _ => st_end))))⟩) says_true)) (by simp only [EqScope, and_true]; exact ⟨fun h => ⟨h.1, h.2.2.2.1, h.2.2.2.2⟩, fun h => ⟨h.1, by rw [h.2.1.len], by rw [h.2.2.len], h.2.1, h.2.2⟩⟩)
theorem q_spec_SameConsole {a b : DConsole} (ha : FitConsole 1048576 a) (hb : FitConsole 1048576 b) : F_spec_SameConsole a b = tell (EqConsole a b) := by
  obtain ⟨f0, f1, f2, f3, _⟩ := ha
  obtain ⟨g0, g1, g2, g3, _⟩ := hb
  refine u_spec_SameConsole a b _ ?_
  unfold B_spec_SameConsole
  exact says_iff (says_bindn (q_spec_l21SameTexts f0 g0) fun _ => says_ifn fun _ => says_bindn (q_spec_l21SameTexts f1 g1) fun _ => says_ifn fun hl => says_loop (R := EqFile) hl (Nat.le_trans f2.1 (by decide)) (fun i x y hx hy ex ey => ⟨_, and_iff_left trivial, st_elt ex (st_elt ey (st_bindn (q_spec_l21SameFile (f2.2 x hx) (g2.2 y hy)) fun _ => st_end))⟩) (says_last (q_spec_l21SameTexts f3 g3))) (by simp only [EqConsole]; exact ⟨fun h => ⟨h.1, h.2.1, h.2.2.1, h.2.2.2.2⟩, fun h => ⟨h.1, h.2.1, h.2.2.1, by rw [h.2.2.2.1.len], h.2.2.2⟩⟩)
theorem q_spec_SameMemory {a b : DMemory} (ha : FitMemory 1048576 a) (hb : FitMemory 1048576 b) : F_spec_SameMemory a b = tell (EqMemory a b) := by
  obtain ⟨f0, f1, f2, _⟩ := ha
  obtain ⟨g0, g1, g2, _⟩ := hb
  refine u_spec_SameMemory a b _ ?_
  unfold B_spec_SameMemory
  exact says_iff (says_bind (q_spec_SameHeap (by assumption) (by assumption)) fun _ => (says_bind (q_spec_SameScope (by assumption) (by assumption)) fun _ => (says_last (q_spec_SameConsole (by assumption) (by assumption))))) (by simp only [EqMemory, EqString, and_true, and_assoc]; first | done | exact ⟨fun h => by simp only [h, and_self], fun h => by simp only [h, and_self]⟩ | exact ⟨fun h => by simp [h], fun h => by simp [h]⟩)
theorem q_spec_SameDesk {a b : DDesk} (ha : FitDesk 1048576 a) (hb : FitDesk 1048576 b) : F_spec_SameDesk a b = tell (EqDesk a b) := by
  obtain ⟨f0, f1, f2, _⟩ := ha
  obtain ⟨g0, g1, g2, _⟩ := hb
  refine u_spec_SameDesk a b _ ?_
  unfold B_spec_SameDesk
  exact says_iff (says_bind (q_spec_l21SameTexts (by assumption) (by assumption)) fun _ => (says_bind (q_spec_l21SameTexts (by assumption) (by assumption)) fun _ => (says_bind (q_spec_SameMemory (by assumption) (by assumption)) fun _ => (says_if fun _ => (says_if fun _ => (says_if fun _ => says_dec)))))) (by simp only [EqDesk, EqString, and_true, and_assoc]; first | done | exact ⟨fun h => by simp only [h, and_self], fun h => by simp only [h, and_self]⟩ | exact ⟨fun h => by simp [h], fun h => by simp [h]⟩)
theorem q_slices_Equal_string {a b : Sl ByteArray} (ha : FitS 1048576 (FitString 1048576) a) (hb : FitS 1048576 (FitString 1048576) b) : F_slices_Equal_string a b = tell (A2 EqString a.l b.l) := by
  refine u_slices_Equal_string a b _ ?_
  unfold B_slices_Equal_string
  exact says_len (says_ifn fun hl => says_loop hl (Nat.le_trans ha.1 (by decide)) (fun i x y hx hy ex ey => ⟨_, and_iff_left trivial, st_elt ex (st_elt ey (st_ifn fun _ => st_end))⟩) says_true)
theorem q_slices_Equal_Value {a b : Sl DValue} (ha : FitS 1048576 (FitValue 1048576) a) (hb : FitS 1048576 (FitValue 1048576) b) : F_slices_Equal_Value a b = tell (A2 EqValue a.l b.l) := by
  refine u_slices_Equal_Value a b _ ?_
  unfold B_slices_Equal_Value
  exact says_len (says_ifn fun hl => says_loop hl (Nat.le_trans ha.1 (by decide)) (fun i x y hx hy ex ey => ⟨_, and_iff_left trivial, st_elt ex (st_elt ey (st_ifnb (by simp [EqValue, EqValue]) fun _ => st_end))⟩) says_true)
theorem q_slices_Equal_Binding {a b : Sl DBinding} (ha : FitS 1048576 (FitBinding 1048576) a) (hb : FitS 1048576 (FitBinding 1048576) b) : F_slices_Equal_Binding a b = tell (A2 EqBinding a.l b.l) := by
  refine u_slices_Equal_Binding a b _ ?_
  unfold B_slices_Equal_Binding
  exact says_len (says_ifn fun hl => says_loop hl (Nat.le_trans ha.1 (by decide)) (fun i x y hx hy ex ey => ⟨_, and_iff_left trivial, st_elt ex (st_elt ey (st_ifnb (by simp [EqBinding, EqValue]) fun _ => st_end))⟩) says_true)
theorem q_impl_sameObject {a b : DObject} (ha : FitObject 1048576 a) (hb : FitObject 1048576 b) : F_impl_sameObject a b = tell (EqObject a b) := by
  obtain ⟨f0, f1, f2, _⟩ := ha
  obtain ⟨g0, g1, g2, _⟩ := hb
  refine u_impl_sameObject a b _ ?_
  unfold B_impl_sameObject
  exact says_iff (says_if fun _ => (says_if fun _ => (says_if fun _ => (says_if fun _ => (says_bind (q_slices_Equal_Value (by assumption) (by assumption)) fun _ => (says_bind (q_slices_Equal_Value (by assumption) (by assumption)) fun _ => (says_b (c := EqValue a.Default b.Default) (by simp [EqValue])))))))) (by simp only [EqObject, EqString, and_true, and_assoc]; first | done | exact ⟨fun h => by simp only [h, and_self], fun h => by simp only [h, and_self]⟩ | exact ⟨fun h => by simp [h], fun h => by simp [h]⟩)
theorem q_impl_sameFunction {a b : DFunction} (ha : FitFunction 1048576 a) (hb : FitFunction 1048576 b) : F_impl_sameFunction a b = tell (EqFunction a b) := by
  obtain ⟨f0, f1, _⟩ := ha
  obtain ⟨g0, g1, _⟩ := hb
  refine u_impl_sameFunction a b _ ?_
  unfold B_impl_sameFunction
  exact says_iff (says_if fun _ => (says_if fun _ => (says_bind (q_slices_Equal_string (by assumption) (by assumption)) fun _ => (says_last (q_slices_Equal_string (by assumption) (by assumption)))))) (by simp only [EqFunction, EqString, and_true, and_assoc]; first | done | exact ⟨fun h => by simp only [h, and_self], fun h => by simp only [h, and_self]⟩ | exact ⟨fun h => by simp [h], fun h => by simp [h]⟩)
theorem q_impl_sameType {a b : DRecordType} (ha : FitRecordType 1048576 a) (hb : FitRecordType 1048576 b) : F_impl_sameType a b = tell (EqRecordType a b) := by
  obtain ⟨f0, _⟩ := ha
  obtain ⟨g0, _⟩ := hb
  refine u_impl_sameType a b _ ?_
  unfold B_impl_sameType
  exact says_iff (says_if fun _ => (says_last (q_slices_Equal_string (by assumption) (by assumption)))) (by simp only [EqRecordType, EqString, and_true, and_assoc]; first | done | exact ⟨fun h => by simp only [h, and_self], fun h => by simp only [h, and_self]⟩ | exact ⟨fun h => by simp [h], fun h => by simp [h]⟩)
theorem q_impl_sameFile {a b : DFile} (ha : FitFile 1048576 a) (hb : FitFile 1048576 b) : F_impl_sameFile a b = tell (EqFile a b) := by
  obtain ⟨f0, _⟩ := ha
  obtain ⟨g0, _⟩ := hb
  refine u_impl_sameFile a b _ ?_
  unfold B_impl_sameFile
  exact says_iff (says_if fun _ => (says_if fun _ => (says_if fun _ => (says_last (q_slices_Equal_string (by assumption) (by assumption)))))) (by simp only [EqFile, EqString, and_true, and_assoc]; first | done | exact ⟨fun h => by simp only [h, and_self], fun h => by simp only [h, and_self]⟩ | exact ⟨fun h => by simp [h], fun h => by simp [h]⟩)
theorem q_slices_EqualFunc_Object {a b : Sl DObject} (ha : FitS 1048576 (FitObject 1048576) a) (hb : FitS 1048576 (FitObject 1048576) b) : F_slices_EqualFunc_Object a b (T.fn 80 [] []) = tell (A2 EqObject a.l b.l) := by
  refine u_slices_EqualFunc_Object a b (T.fn 80 [] []) _ ?_
  unfold B_slices_EqualFunc_Object
  refine (if_pos (by decide)).trans ?_
  exact says_len (says_ifn fun hl => says_loop hl (Nat.le_trans ha.1 (by decide)) (fun i x y hx hy ex ey => ⟨_, and_iff_left trivial, st_elt ex (st_elt ey (st_bindn (q_impl_sameObject (ha.2 x hx) (hb.2 y hy)) fun _ => st_end))⟩) says_true)
theorem q_slices_EqualFunc_Function {a b : Sl DFunction} (ha : FitS 1048576 (FitFunction 1048576) a) (hb : FitS 1048576 (FitFunction 1048576) b) : F_slices_EqualFunc_Function a b (T.fn 105 [] []) = tell (A2 EqFunction a.l b.l) := by
  refine u_slices_EqualFunc_Function a b (T.fn 105 [] []) _ ?_
  unfold B_slices_EqualFunc_Function
  refine (if_pos (by decide)).trans ?_
  exact says_len (says_ifn fun hl => says_loop hl (Nat.le_trans ha.1 (by decide)) (fun i x y hx hy ex ey => ⟨_, and_iff_left trivial, st_elt ex (st_elt ey (st_bindn (q_impl_sameFunction (ha.2 x hx) (hb.2 y hy)) fun _ => st_end))⟩) says_true)
theorem q_slices_EqualFunc_RecordType {a b : Sl DRecordType} (ha : FitS 1048576 (FitRecordType 1048576) a) (hb : FitS 1048576 (FitRecordType 1048576) b) : F_slices_EqualFunc_RecordType a b (T.fn 107 [] []) = tell (A2 EqRecordType a.l b.l) := by
  refine u_slices_EqualFunc_RecordType a b (T.fn 107 [] []) _ ?_
  unfold B_slices_EqualFunc_RecordType
  refine (if_pos (by decide)).trans ?_
  exact says_len (says_ifn fun hl => says_loop hl (Nat.le_trans ha.1 (by decide)) (fun i x y hx hy ex ey => ⟨_, and_iff_left trivial, st_elt ex (st_elt ey (st_bindn (q_impl_sameType (ha.2 x hx) (hb.2 y hy)) fun _ => st_end))⟩) says_true)
theorem q_slices_EqualFunc_File {a b : Sl DFile} (ha : FitS 1048576 (FitFile 1048576) a) (hb : FitS 1048576 (FitFile 1048576) b) : F_slices_EqualFunc_File a b (T.fn 84 [] []) = tell (A2 EqFile a.l b.l) := by
  refine u_slices_EqualFunc_File a b (T.fn 84 [] []) _ ?_
  unfold B_slices_EqualFunc_File
  refine (if_pos (by decide)).trans ?_
  exact says_len (says_ifn fun hl => says_loop hl (Nat.le_trans ha.1 (by decide)) (fun i x y hx hy ex ey => ⟨_, and_iff_left trivial, st_elt ex (st_elt ey (st_bindn (q_impl_sameFile (ha.2 x hx) (hb.2 y hy)) fun _ => st_end))⟩) says_true)
theorem q_impl_SameHeap {a b : DHeap} (ha : FitHeap 1048576 a) (hb : FitHeap 1048576 b) : F_impl_SameHeap a b = tell (EqHeap a b) := by
  obtain ⟨f0, _⟩ := ha
  obtain ⟨g0, _⟩ := hb
  refine u_impl_SameHeap a b _ ?_
  unfold B_impl_SameHeap
  exact says_iff (says_if fun _ => (says_last (q_slices_EqualFunc_Object (by assumption) (by assumption)))) (by simp only [EqHeap, EqString, and_true, and_assoc]; first | done | exact ⟨fun h => by simp only [h, and_self], fun h => by simp only [h, and_self]⟩ | exact ⟨fun h => by simp [h], fun h => by simp [h]⟩)
theorem q_impl_sameDefinitions {a b : DScope} (ha : FitScope 1048576 a) (hb : FitScope 1048576 b) : F_impl_sameDefinitions a b = tell (A2 EqFunction a.Functions.l b.Functions.l ∧ A2 EqRecordType a.Types.l b.Types.l) := by
  obtain ⟨f0, f1, f2, _⟩ := ha
  obtain ⟨g0, g1, g2, _⟩ := hb
  refine u_impl_sameDefinitions a b _ ?_
  unfold B_impl_sameDefinitions
  exact (says_bind (q_slices_EqualFunc_Function (by assumption) (by assumption)) fun _ => (says_last (q_slices_EqualFunc_RecordType (by assumption) (by assumption))))
theorem q_impl_SameScope {a b : DScope} (ha : FitScope 1048576 a) (hb : FitScope 1048576 b) : F_impl_SameScope a b = tell (EqScope a b) := by
  obtain ⟨f0, f1, f2, _⟩ := ha
  obtain ⟨g0, g1, g2, _⟩ := hb
  refine u_impl_SameScope a b _ ?_
  unfold B_impl_SameScope
  exact says_iff (says_bind (q_slices_Equal_Binding f0 g0) fun _ => says_last (q_impl_sameDefinitions (a := a) (b := b) ⟨f0, f1, f2, trivial⟩ ⟨g0, g1, g2, trivial⟩)) (by simp only [EqScope, EqString, and_true, and_assoc]; first | done | exact ⟨fun h => by simp only [h, and_self], fun h => by simp only [h, and_self]⟩ | exact ⟨fun h => by simp [h], fun h => by simp [h]⟩)
theorem says_swap {p c q : Prop} [Decidable c] {o K : Option Bool} (ho : o = tell p) (h : p → K = tell q) : (o.bind fun y => if decide c = true then (if y = true then K else some false) else some false) = tell (c ∧ p ∧ q) := by
  subst ho
  by_cases hp : p
  · rw [tell_t hp]; show (if decide c = true then (if true = true then K else some false) else some false) = _
    rw [if_pos (c := true = true) rfl]; exact says_iff (says_if fun _ => h hp) (by simp [hp])
  · rw [tell_f hp, tell_f (fun w => hp w.2.1)]; show (if decide c = true then (if false = true then K else some false) else some false) = _
    rw [if_neg (c := false = true) (by simp)]; simp
theorem q_impl_SameConsole {a b : DConsole} (ha : FitConsole 1048576 a) (hb : FitConsole 1048576 b) : F_impl_SameConsole a b = tell (EqConsole a b) := by
  obtain ⟨f0, f1, f2, f3, _⟩ := ha
  obtain ⟨g0, g1, g2, g3, _⟩ := hb
  refine u_impl_SameConsole a b _ ?_
  unfold B_impl_SameConsole
  exact says_iff (says_swap (says_bind (q_slices_Equal_string f0 g0) fun _ => says_bind (q_slices_Equal_string f1 g1) fun _ => says_last (q_slices_Equal_string f3 g3)) fun _ => says_last (q_slices_EqualFunc_File f2 g2)) (by simp only [EqConsole, EqString, and_true, and_assoc]; first | done | exact ⟨fun h => by simp only [h, and_self], fun h => by simp only [h, and_self]⟩ | exact ⟨fun h => by simp [h], fun h => by simp [h]⟩)
theorem q_impl_SameMemory {a b : DMemory} (ha : FitMemory 1048576 a) (hb : FitMemory 1048576 b) : F_impl_SameMemory a b = tell (EqMemory a b) := by
  obtain ⟨f0, f1, f2, _⟩ := ha
  obtain ⟨g0, g1, g2, _⟩ := hb
  refine u_impl_SameMemory a b _ ?_
  unfold B_impl_SameMemory
  exact says_iff (says_bind (q_impl_SameHeap (by assumption) (by assumption)) fun _ => (says_bind (q_impl_SameScope (by assumption) (by assumption)) fun _ => (says_last (q_impl_SameConsole (by assumption) (by assumption))))) (by simp only [EqMemory, EqString, and_true, and_assoc]; first | done | exact ⟨fun h => by simp only [h, and_self], fun h => by simp only [h, and_self]⟩ | exact ⟨fun h => by simp [h], fun h => by simp [h]⟩)
theorem q_impl_SameDesk {a b : DDesk} (ha : FitDesk 1048576 a) (hb : FitDesk 1048576 b) : F_impl_SameDesk a b = tell (EqDesk a b) := by
  obtain ⟨f0, f1, f2, _⟩ := ha
  obtain ⟨g0, g1, g2, _⟩ := hb
  refine u_impl_SameDesk a b _ ?_
  unfold B_impl_SameDesk
  exact says_iff (says_bind (says_bind (q_slices_Equal_string (by assumption) (by assumption)) fun _ => (says_bind (q_slices_Equal_string (by assumption) (by assumption)) fun _ => says_dec)) fun _ => (says_bind (q_impl_SameMemory (by assumption) (by assumption)) fun _ => (says_if fun _ => (says_if fun _ => says_dec)))) (by simp only [EqDesk, EqString, and_true, and_assoc]; first | done | exact ⟨fun h => by simp only [h, and_self], fun h => by simp only [h, and_self]⟩ | exact ⟨fun h => by simp [h], fun h => by simp [h]⟩)
end Go.Am
end
