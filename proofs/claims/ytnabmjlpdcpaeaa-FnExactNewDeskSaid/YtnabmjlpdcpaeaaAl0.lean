/- The law. -/
import Derived.Test.YtnabmjlpdcpaeaaAm4
import Derived.Test.YtnabmjlpdcpaeaaAg1
import Derived.Test.YtnabmjlpdcpaeaaAg0
import Derived.Test.YtnabmjlpdcpaeaaAg2
import Derived.Test.YtnabmjlpdcpaeaaAg3
section
set_option maxRecDepth 100000
set_option maxHeartbeats 1000000
set_option linter.unusedVariables false
set_option linter.unusedSimpArgs false
namespace Go.Am
def nd : DDesk := (⟨⟨true, []⟩, ⟨true, []⟩, (⟨(⟨0, ⟨true, []⟩⟩ : DHeap), (⟨⟨true, []⟩, ⟨true, []⟩, ⟨true, []⟩⟩ : DScope), (⟨⟨true, []⟩, 0, ⟨true, []⟩, ⟨true, []⟩, ⟨true, []⟩⟩ : DConsole)⟩ : DMemory), (-1), 0, ⟨#[]⟩, (-1)⟩ : DDesk)
theorem nm_String (s : Sl ByteArray) (hs : s.l = []) (a : Int) : F_laws_markStringS s a = some a := by
  refine u_laws_markStringS s a a ?_
  unfold B_laws_markStringS
  rw [loopO_stop (r := ()) (by simp [hs])]; rfl
theorem nh_String (s : Sl ByteArray) (hs : s.l = []) (a : Int) : F_laws_heldStringS s a = some a := by
  refine u_laws_heldStringS s a a ?_
  unfold B_laws_heldStringS
  rw [loopO_stop (r := .inl a) (by simp [hs])]; rfl
theorem ne_String (s : Sl ByteArray) (hs : s.l = []) : F_laws_eqStringS s s = some true := by
  refine u_laws_eqStringS s s true ?_
  unfold B_laws_eqStringS
  rw [if_neg (by simp), loopO_stop (r := .inl ()) (by simp [hs])]; rfl
theorem nm_Object (s : Sl DObject) (hs : s.l = []) (a : Int) : F_laws_markObjectS s a = some a := by
  refine u_laws_markObjectS s a a ?_
  unfold B_laws_markObjectS
  rw [loopO_stop (r := ()) (by simp [hs])]; rfl
theorem nh_Object (s : Sl DObject) (hs : s.l = []) (a : Int) : F_laws_heldObjectS s a = some a := by
  refine u_laws_heldObjectS s a a ?_
  unfold B_laws_heldObjectS
  rw [loopO_stop (r := .inl a) (by simp [hs])]; rfl
theorem ne_Object (s : Sl DObject) (hs : s.l = []) : F_laws_eqObjectS s s = some true := by
  refine u_laws_eqObjectS s s true ?_
  unfold B_laws_eqObjectS
  rw [if_neg (by simp), loopO_stop (r := .inl ()) (by simp [hs])]; rfl
theorem nm_Binding (s : Sl DBinding) (hs : s.l = []) (a : Int) : F_laws_markBindingS s a = some a := by
  refine u_laws_markBindingS s a a ?_
  unfold B_laws_markBindingS
  rw [loopO_stop (r := ()) (by simp [hs])]; rfl
theorem nh_Binding (s : Sl DBinding) (hs : s.l = []) (a : Int) : F_laws_heldBindingS s a = some a := by
  refine u_laws_heldBindingS s a a ?_
  unfold B_laws_heldBindingS
  rw [loopO_stop (r := .inl a) (by simp [hs])]; rfl
theorem ne_Binding (s : Sl DBinding) (hs : s.l = []) : F_laws_eqBindingS s s = some true := by
  refine u_laws_eqBindingS s s true ?_
  unfold B_laws_eqBindingS
  rw [if_neg (by simp), loopO_stop (r := .inl ()) (by simp [hs])]; rfl
theorem nm_Function (s : Sl DFunction) (hs : s.l = []) (a : Int) : F_laws_markFunctionS s a = some a := by
  refine u_laws_markFunctionS s a a ?_
  unfold B_laws_markFunctionS
  rw [loopO_stop (r := ()) (by simp [hs])]; rfl
theorem nh_Function (s : Sl DFunction) (hs : s.l = []) (a : Int) : F_laws_heldFunctionS s a = some a := by
  refine u_laws_heldFunctionS s a a ?_
  unfold B_laws_heldFunctionS
  rw [loopO_stop (r := .inl a) (by simp [hs])]; rfl
theorem ne_Function (s : Sl DFunction) (hs : s.l = []) : F_laws_eqFunctionS s s = some true := by
  refine u_laws_eqFunctionS s s true ?_
  unfold B_laws_eqFunctionS
  rw [if_neg (by simp), loopO_stop (r := .inl ()) (by simp [hs])]; rfl
theorem nm_RecordType (s : Sl DRecordType) (hs : s.l = []) (a : Int) : F_laws_markRecordTypeS s a = some a := by
  refine u_laws_markRecordTypeS s a a ?_
  unfold B_laws_markRecordTypeS
  rw [loopO_stop (r := ()) (by simp [hs])]; rfl
theorem nh_RecordType (s : Sl DRecordType) (hs : s.l = []) (a : Int) : F_laws_heldRecordTypeS s a = some a := by
  refine u_laws_heldRecordTypeS s a a ?_
  unfold B_laws_heldRecordTypeS
  rw [loopO_stop (r := .inl a) (by simp [hs])]; rfl
theorem ne_RecordType (s : Sl DRecordType) (hs : s.l = []) : F_laws_eqRecordTypeS s s = some true := by
  refine u_laws_eqRecordTypeS s s true ?_
  unfold B_laws_eqRecordTypeS
  rw [if_neg (by simp), loopO_stop (r := .inl ()) (by simp [hs])]; rfl
theorem nm_File (s : Sl DFile) (hs : s.l = []) (a : Int) : F_laws_markFileS s a = some a := by
  refine u_laws_markFileS s a a ?_
  unfold B_laws_markFileS
  rw [loopO_stop (r := ()) (by simp [hs])]; rfl
theorem nh_File (s : Sl DFile) (hs : s.l = []) (a : Int) : F_laws_heldFileS s a = some a := by
  refine u_laws_heldFileS s a a ?_
  unfold B_laws_heldFileS
  rw [loopO_stop (r := .inl a) (by simp [hs])]; rfl
theorem ne_File (s : Sl DFile) (hs : s.l = []) : F_laws_eqFileS s s = some true := by
  refine u_laws_eqFileS s s true ?_
  unfold B_laws_eqFileS
  rw [if_neg (by simp), loopO_stop (r := .inl ()) (by simp [hs])]; rfl
theorem nm_Heap (a : Int) (ha : 0 ≤ a) : F_laws_markHeap nd.Memory.Heap a = some a := by
  have hn : ¬ a < 0 := by omega
  refine u_laws_markHeap nd.Memory.Heap a a ?_
  unfold B_laws_markHeap
  simp [nm_Object nd.Memory.Heap.Objects rfl _, hn]
theorem nh_Heap (a : Int) (ha : 0 ≤ a) : F_laws_heldHeap nd.Memory.Heap a = some a := by
  have hn : ¬ a < 0 := by omega
  refine u_laws_heldHeap nd.Memory.Heap a a ?_
  unfold B_laws_heldHeap
  simp [nh_Object nd.Memory.Heap.Objects rfl _, hn]
theorem ne_Heap : F_laws_eqHeap nd.Memory.Heap nd.Memory.Heap = some true := by
  refine u_laws_eqHeap nd.Memory.Heap nd.Memory.Heap true ?_
  unfold B_laws_eqHeap
  simp only [ne_Object nd.Memory.Heap.Objects rfl, Option.bind_some]
  simp
theorem nm_Scope (a : Int) (ha : 0 ≤ a) : F_laws_markScope nd.Memory.Scope a = some a := by
  have hn : ¬ a < 0 := by omega
  refine u_laws_markScope nd.Memory.Scope a a ?_
  unfold B_laws_markScope
  simp [nm_Binding nd.Memory.Scope.Vars rfl _, nm_Function nd.Memory.Scope.Functions rfl _, nm_RecordType nd.Memory.Scope.Types rfl _, hn]
theorem nh_Scope (a : Int) (ha : 0 ≤ a) : F_laws_heldScope nd.Memory.Scope a = some a := by
  have hn : ¬ a < 0 := by omega
  refine u_laws_heldScope nd.Memory.Scope a a ?_
  unfold B_laws_heldScope
  simp [nh_Binding nd.Memory.Scope.Vars rfl _, nh_Function nd.Memory.Scope.Functions rfl _, nh_RecordType nd.Memory.Scope.Types rfl _, hn]
theorem ne_Scope : F_laws_eqScope nd.Memory.Scope nd.Memory.Scope = some true := by
  refine u_laws_eqScope nd.Memory.Scope nd.Memory.Scope true ?_
  unfold B_laws_eqScope
  simp only [ne_Binding nd.Memory.Scope.Vars rfl, ne_Function nd.Memory.Scope.Functions rfl, ne_RecordType nd.Memory.Scope.Types rfl, Option.bind_some]
  simp
theorem nm_Console (a : Int) (ha : 0 ≤ a) : F_laws_markConsole nd.Memory.Console a = some a := by
  have hn : ¬ a < 0 := by omega
  refine u_laws_markConsole nd.Memory.Console a a ?_
  unfold B_laws_markConsole
  simp [nm_String nd.Memory.Console.Input rfl _, nm_String nd.Memory.Console.Output rfl _, nm_File nd.Memory.Console.Files rfl _, nm_String nd.Memory.Console.Trace rfl _, hn]
theorem nh_Console (a : Int) (ha : 0 ≤ a) : F_laws_heldConsole nd.Memory.Console a = some a := by
  have hn : ¬ a < 0 := by omega
  refine u_laws_heldConsole nd.Memory.Console a a ?_
  unfold B_laws_heldConsole
  simp [nh_String nd.Memory.Console.Input rfl _, nh_String nd.Memory.Console.Output rfl _, nh_File nd.Memory.Console.Files rfl _, nh_String nd.Memory.Console.Trace rfl _, hn]
theorem ne_Console : F_laws_eqConsole nd.Memory.Console nd.Memory.Console = some true := by
  refine u_laws_eqConsole nd.Memory.Console nd.Memory.Console true ?_
  unfold B_laws_eqConsole
  simp only [ne_String nd.Memory.Console.Input rfl, ne_String nd.Memory.Console.Output rfl, ne_File nd.Memory.Console.Files rfl, ne_String nd.Memory.Console.Trace rfl, Option.bind_some]
  simp
theorem nm_Memory (a : Int) (ha : 0 ≤ a) : F_laws_markMemory nd.Memory a = some a := by
  have hn : ¬ a < 0 := by omega
  refine u_laws_markMemory nd.Memory a a ?_
  unfold B_laws_markMemory
  simp [nm_Heap a ha, nm_Scope a ha, nm_Console a ha, hn]
theorem nh_Memory (a : Int) (ha : 0 ≤ a) : F_laws_heldMemory nd.Memory a = some a := by
  have hn : ¬ a < 0 := by omega
  refine u_laws_heldMemory nd.Memory a a ?_
  unfold B_laws_heldMemory
  simp [nh_Heap a ha, nh_Scope a ha, nh_Console a ha, hn]
theorem ne_Memory : F_laws_eqMemory nd.Memory nd.Memory = some true := by
  refine u_laws_eqMemory nd.Memory nd.Memory true ?_
  unfold B_laws_eqMemory
  simp only [ne_Heap, ne_Scope, ne_Console, Option.bind_some]
  simp
theorem nm_Desk (a : Int) (ha : 0 ≤ a) : F_laws_markDesk nd a = some a := by
  have hn : ¬ a < 0 := by omega
  refine u_laws_markDesk nd a a ?_
  unfold B_laws_markDesk
  simp [nm_String nd.Source rfl _, nm_String nd.Input rfl _, nm_Memory a ha, hn]
theorem nh_Desk (a : Int) (ha : 0 ≤ a) : F_laws_heldDesk nd a = some a := by
  have hn : ¬ a < 0 := by omega
  refine u_laws_heldDesk nd a a ?_
  unfold B_laws_heldDesk
  simp [nh_String nd.Source rfl _, nh_String nd.Input rfl _, nh_Memory a ha, hn]
theorem ne_Desk : F_laws_eqDesk nd nd = some true := by
  refine u_laws_eqDesk nd nd true ?_
  unfold B_laws_eqDesk
  simp only [ne_String nd.Source rfl, ne_String nd.Input rfl, ne_Memory, Option.bind_some]
  simp
theorem newDesk_true : F_laws_FnExactNewDesk = some true := by
  have e1 : F_impl_NewDesk = some nd := u_impl_NewDesk nd rfl
  have e2 : F_spec_NewDesk = some nd := u_spec_NewDesk nd rfl
  refine u_laws_FnExactNewDesk true ?_
  unfold B_laws_FnExactNewDesk
  simp [e1, e2, ne_Desk, nm_Desk 1 (by omega), nh_Desk 1 (by omega)]
theorem law_FnExactNewDesk : ∃ σ', run Go.Proofs.Try.prog md ext 3 [] St.empty = some (.bool true, σ') := ⟨_, semV_spec newDesk_true St.empty⟩
end Go.Am
end
