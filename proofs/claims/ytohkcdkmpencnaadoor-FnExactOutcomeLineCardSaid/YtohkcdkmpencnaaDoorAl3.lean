/- The law. -/
import Derived.Test.YtohkcdkmpencnaaDoorAg0
import Derived.Test.YtohkcdkmpencnaaDoorAg1
import Derived.Test.YtohkcdkmpencnaaDoorAl2
section
set_option maxHeartbeats 1000000
set_option linter.unusedVariables false
set_option linter.unusedSimpArgs false
namespace Go.Am
theorem q_laws_eqStringS {a b : Sl ByteArray} (ha : FitS 1048576 (FitString 1048576) a) (hb : FitS 1048576 (FitString 1048576) b) : F_laws_eqStringS a b = tell (A2 EqString a.l b.l) := by
  refine u_laws_eqStringS a b _ ?_
  unfold B_laws_eqStringS
  exact says_len (says_ifn fun hl => says_loop hl (Nat.le_trans ha.1 (by decide)) (fun i x y hx hy ex ey => ⟨_, and_iff_left trivial, st_elt ex (st_elt ey (st_ifn fun _ => st_end))⟩) says_true)
theorem q_laws_eqValue {a b : DValue} (ha : FitValue 1048576 a) (hb : FitValue 1048576 b) : F_laws_eqValue a b = tell (EqValue a b) := by
  refine u_laws_eqValue a b _ ?_
  unfold B_laws_eqValue
  exact says_iff (says_ifn fun _ => (says_ifn fun _ => (says_ifn fun _ => (says_ifn fun _ => says_true)))) (by simp only [EqValue, EqString, and_true, and_assoc]; first | done | exact ⟨fun h => by simp only [h, and_self], fun h => by simp only [h, and_self]⟩ | exact ⟨fun h => by simp [h], fun h => by simp [h]⟩)
theorem q_laws_eqValueS {a b : Sl DValue} (ha : FitS 1048576 (FitValue 1048576) a) (hb : FitS 1048576 (FitValue 1048576) b) : F_laws_eqValueS a b = tell (A2 EqValue a.l b.l) := by
  refine u_laws_eqValueS a b _ ?_
  unfold B_laws_eqValueS
  exact says_len (says_ifn fun hl => says_loop hl (Nat.le_trans ha.1 (by decide)) (fun i x y hx hy ex ey => ⟨_, and_iff_left trivial, st_elt ex (st_elt ey (st_bindn (q_laws_eqValue (ha.2 x hx) (hb.2 y hy)) fun _ => st_end))⟩) says_true)
theorem q_laws_eqObject {a b : DObject} (ha : FitObject 1048576 a) (hb : FitObject 1048576 b) : F_laws_eqObject a b = tell (EqObject a b) := by
  obtain ⟨f0, f1, f2, _⟩ := ha
  obtain ⟨g0, g1, g2, _⟩ := hb
  refine u_laws_eqObject a b _ ?_
  unfold B_laws_eqObject
  exact says_iff (says_ifn fun _ => (says_ifn fun _ => (says_ifn fun _ => (says_ifn fun _ => (says_bindn (q_laws_eqValueS (by assumption) (by assumption)) fun _ => (says_bindn (q_laws_eqValueS (by assumption) (by assumption)) fun _ => (says_bindn (q_laws_eqValue (by assumption) (by assumption)) fun _ => says_true))))))) (by simp only [EqObject, EqString, and_true, and_assoc]; first | done | exact ⟨fun h => by simp only [h, and_self], fun h => by simp only [h, and_self]⟩ | exact ⟨fun h => by simp [h], fun h => by simp [h]⟩)
theorem q_laws_eqObjectS {a b : Sl DObject} (ha : FitS 1048576 (FitObject 1048576) a) (hb : FitS 1048576 (FitObject 1048576) b) : F_laws_eqObjectS a b = tell (A2 EqObject a.l b.l) := by
  refine u_laws_eqObjectS a b _ ?_
  unfold B_laws_eqObjectS
  exact says_len (says_ifn fun hl => says_loop hl (Nat.le_trans ha.1 (by decide)) (fun i x y hx hy ex ey => ⟨_, and_iff_left trivial, st_elt ex (st_elt ey (st_bindn (q_laws_eqObject (ha.2 x hx) (hb.2 y hy)) fun _ => st_end))⟩) says_true)
theorem q_laws_eqBinding {a b : DBinding} (ha : FitBinding 1048576 a) (hb : FitBinding 1048576 b) : F_laws_eqBinding a b = tell (EqBinding a b) := by
  obtain ⟨f0, _⟩ := ha
  obtain ⟨g0, _⟩ := hb
  refine u_laws_eqBinding a b _ ?_
  unfold B_laws_eqBinding
  exact says_iff (says_ifn fun _ => (says_bindn (q_laws_eqValue (by assumption) (by assumption)) fun _ => says_true)) (by simp only [EqBinding, EqString, and_true, and_assoc]; first | done | exact ⟨fun h => by simp only [h, and_self], fun h => by simp only [h, and_self]⟩ | exact ⟨fun h => by simp [h], fun h => by simp [h]⟩)
theorem q_laws_eqBindingS {a b : Sl DBinding} (ha : FitS 1048576 (FitBinding 1048576) a) (hb : FitS 1048576 (FitBinding 1048576) b) : F_laws_eqBindingS a b = tell (A2 EqBinding a.l b.l) := by
  refine u_laws_eqBindingS a b _ ?_
  unfold B_laws_eqBindingS
  exact says_len (says_ifn fun hl => says_loop hl (Nat.le_trans ha.1 (by decide)) (fun i x y hx hy ex ey => ⟨_, and_iff_left trivial, st_elt ex (st_elt ey (st_bindn (q_laws_eqBinding (ha.2 x hx) (hb.2 y hy)) fun _ => st_end))⟩) says_true)
theorem q_laws_eqFunction {a b : DFunction} (ha : FitFunction 1048576 a) (hb : FitFunction 1048576 b) : F_laws_eqFunction a b = tell (EqFunction a b) := by
  obtain ⟨f0, f1, _⟩ := ha
  obtain ⟨g0, g1, _⟩ := hb
  refine u_laws_eqFunction a b _ ?_
  unfold B_laws_eqFunction
  exact says_iff (says_ifn fun _ => (says_bindn (q_laws_eqStringS (by assumption) (by assumption)) fun _ => (says_bindn (q_laws_eqStringS (by assumption) (by assumption)) fun _ => (says_ifn fun _ => says_true)))) (by simp only [EqFunction, EqString, and_true, and_assoc]; first | done | exact ⟨fun h => by simp only [h, and_self], fun h => by simp only [h, and_self]⟩ | exact ⟨fun h => by simp [h], fun h => by simp [h]⟩)
theorem q_laws_eqFunctionS {a b : Sl DFunction} (ha : FitS 1048576 (FitFunction 1048576) a) (hb : FitS 1048576 (FitFunction 1048576) b) : F_laws_eqFunctionS a b = tell (A2 EqFunction a.l b.l) := by
  refine u_laws_eqFunctionS a b _ ?_
  unfold B_laws_eqFunctionS
  exact says_len (says_ifn fun hl => says_loop hl (Nat.le_trans ha.1 (by decide)) (fun i x y hx hy ex ey => ⟨_, and_iff_left trivial, st_elt ex (st_elt ey (st_bindn (q_laws_eqFunction (ha.2 x hx) (hb.2 y hy)) fun _ => st_end))⟩) says_true)
theorem q_laws_eqRecordType {a b : DRecordType} (ha : FitRecordType 1048576 a) (hb : FitRecordType 1048576 b) : F_laws_eqRecordType a b = tell (EqRecordType a b) := by
  obtain ⟨f0, _⟩ := ha
  obtain ⟨g0, _⟩ := hb
  refine u_laws_eqRecordType a b _ ?_
  unfold B_laws_eqRecordType
  exact says_iff (says_ifn fun _ => (says_bindn (q_laws_eqStringS (by assumption) (by assumption)) fun _ => says_true)) (by simp only [EqRecordType, EqString, and_true, and_assoc]; first | done | exact ⟨fun h => by simp only [h, and_self], fun h => by simp only [h, and_self]⟩ | exact ⟨fun h => by simp [h], fun h => by simp [h]⟩)
theorem q_laws_eqRecordTypeS {a b : Sl DRecordType} (ha : FitS 1048576 (FitRecordType 1048576) a) (hb : FitS 1048576 (FitRecordType 1048576) b) : F_laws_eqRecordTypeS a b = tell (A2 EqRecordType a.l b.l) := by
  refine u_laws_eqRecordTypeS a b _ ?_
  unfold B_laws_eqRecordTypeS
  exact says_len (says_ifn fun hl => says_loop hl (Nat.le_trans ha.1 (by decide)) (fun i x y hx hy ex ey => ⟨_, and_iff_left trivial, st_elt ex (st_elt ey (st_bindn (q_laws_eqRecordType (ha.2 x hx) (hb.2 y hy)) fun _ => st_end))⟩) says_true)
theorem q_laws_eqFile {a b : DFile} (ha : FitFile 1048576 a) (hb : FitFile 1048576 b) : F_laws_eqFile a b = tell (EqFile a b) := by
  obtain ⟨f0, _⟩ := ha
  obtain ⟨g0, _⟩ := hb
  refine u_laws_eqFile a b _ ?_
  unfold B_laws_eqFile
  exact says_iff (says_ifn fun _ => (says_bindn (q_laws_eqStringS (by assumption) (by assumption)) fun _ => (says_ifn fun _ => (says_ifn fun _ => says_true)))) (by simp only [EqFile, EqString, and_true, and_assoc]; first | done | exact ⟨fun h => by simp only [h, and_self], fun h => by simp only [h, and_self]⟩ | exact ⟨fun h => by simp [h], fun h => by simp [h]⟩)
theorem q_laws_eqFileS {a b : Sl DFile} (ha : FitS 1048576 (FitFile 1048576) a) (hb : FitS 1048576 (FitFile 1048576) b) : F_laws_eqFileS a b = tell (A2 EqFile a.l b.l) := by
  refine u_laws_eqFileS a b _ ?_
  unfold B_laws_eqFileS
  exact says_len (says_ifn fun hl => says_loop hl (Nat.le_trans ha.1 (by decide)) (fun i x y hx hy ex ey => ⟨_, and_iff_left trivial, st_elt ex (st_elt ey (st_bindn (q_laws_eqFile (ha.2 x hx) (hb.2 y hy)) fun _ => st_end))⟩) says_true)
theorem q_laws_eqHeap {a b : DHeap} (ha : FitHeap 1048576 a) (hb : FitHeap 1048576 b) : F_laws_eqHeap a b = tell (EqHeap a b) := by
  obtain ⟨f0, _⟩ := ha
  obtain ⟨g0, _⟩ := hb
  refine u_laws_eqHeap a b _ ?_
  unfold B_laws_eqHeap
  exact says_iff (says_ifn fun _ => (says_bindn (q_laws_eqObjectS (by assumption) (by assumption)) fun _ => says_true)) (by simp only [EqHeap, EqString, and_true, and_assoc]; first | done | exact ⟨fun h => by simp only [h, and_self], fun h => by simp only [h, and_self]⟩ | exact ⟨fun h => by simp [h], fun h => by simp [h]⟩)
theorem q_laws_eqScope {a b : DScope} (ha : FitScope 1048576 a) (hb : FitScope 1048576 b) : F_laws_eqScope a b = tell (EqScope a b) := by
  obtain ⟨f0, f1, f2, _⟩ := ha
  obtain ⟨g0, g1, g2, _⟩ := hb
  refine u_laws_eqScope a b _ ?_
  unfold B_laws_eqScope
  exact says_iff (says_bindn (q_laws_eqBindingS (by assumption) (by assumption)) fun _ => (says_bindn (q_laws_eqFunctionS (by assumption) (by assumption)) fun _ => (says_bindn (q_laws_eqRecordTypeS (by assumption) (by assumption)) fun _ => says_true))) (by simp only [EqScope, EqString, and_true, and_assoc]; first | done | exact ⟨fun h => by simp only [h, and_self], fun h => by simp only [h, and_self]⟩ | exact ⟨fun h => by simp [h], fun h => by simp [h]⟩)
theorem q_laws_eqConsole {a b : DConsole} (ha : FitConsole 1048576 a) (hb : FitConsole 1048576 b) : F_laws_eqConsole a b = tell (EqConsole a b) := by
  obtain ⟨f0, f1, f2, f3, _⟩ := ha
  obtain ⟨g0, g1, g2, g3, _⟩ := hb
  refine u_laws_eqConsole a b _ ?_
  unfold B_laws_eqConsole
  exact says_iff (says_bindn (q_laws_eqStringS (by assumption) (by assumption)) fun _ => (says_ifn fun _ => (says_bindn (q_laws_eqStringS (by assumption) (by assumption)) fun _ => (says_bindn (q_laws_eqFileS (by assumption) (by assumption)) fun _ => (says_bindn (q_laws_eqStringS (by assumption) (by assumption)) fun _ => says_true))))) (by simp only [EqConsole, EqString, and_true, and_assoc]; first | done | exact ⟨fun h => by simp only [h, and_self], fun h => by simp only [h, and_self]⟩ | exact ⟨fun h => by simp [h], fun h => by simp [h]⟩)
theorem q_laws_eqMemory {a b : DMemory} (ha : FitMemory 1048576 a) (hb : FitMemory 1048576 b) : F_laws_eqMemory a b = tell (EqMemory a b) := by
  obtain ⟨f0, f1, f2, _⟩ := ha
  obtain ⟨g0, g1, g2, _⟩ := hb
  refine u_laws_eqMemory a b _ ?_
  unfold B_laws_eqMemory
  exact says_iff (says_bindn (q_laws_eqHeap (by assumption) (by assumption)) fun _ => (says_bindn (q_laws_eqScope (by assumption) (by assumption)) fun _ => (says_bindn (q_laws_eqConsole (by assumption) (by assumption)) fun _ => says_true))) (by simp only [EqMemory, EqString, and_true, and_assoc]; first | done | exact ⟨fun h => by simp only [h, and_self], fun h => by simp only [h, and_self]⟩ | exact ⟨fun h => by simp [h], fun h => by simp [h]⟩)
end Go.Am
end
