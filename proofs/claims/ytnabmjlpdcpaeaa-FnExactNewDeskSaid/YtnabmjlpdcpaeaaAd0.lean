/- The data. -/
import Derived.Test.YtnabmjlpdcpaeaaAm4
import Derived.Test.YtnabmjlpdcpaeaaProg
section
set_option maxRecDepth 100000
set_option linter.unusedVariables false
set_option linter.unusedSimpArgs false
namespace Go.Am
open Go.Proofs
structure DValue where
  Kind : Int
  Num : Int
  Text : ByteArray
  Ref : Int
def DValue.cells (x : DValue) : List T := [.int .i64 x.Kind, .int .i64 x.Num, .str x.Text, .int .i64 x.Ref]
instance : Enc DValue := ⟨DValue.cells, 4, fun _ => rfl, fun _ => rfl, fun x => by simp [DValue.cells, pureL, pureT], fun a b h => by
  rcases a with ⟨_, _, _, _⟩; rcases b with ⟨_, _, _, _⟩; simp [DValue.cells] at h; simp_all⟩
structure DObject where
  Id : Int
  Kind : Int
  Name : ByteArray
  Low : Int
  Keys : (Sl DValue)
  Vals : (Sl DValue)
  Default : DValue
def DObject.cells (x : DObject) : List T := [.int .i64 x.Id, .int .i64 x.Kind, .str x.Name, .int .i64 x.Low, (Sl.t (x.Keys : Sl DValue)), (Sl.t (x.Vals : Sl DValue)), .int .i64 x.Default.Kind, .int .i64 x.Default.Num, .str x.Default.Text, .int .i64 x.Default.Ref]
instance : Enc DObject := ⟨DObject.cells, 10, fun _ => rfl, fun _ => rfl, fun x => by simp [DObject.cells, pureL, pureT], fun a b h => by
  rcases a with ⟨_, _, _, _, _, _, ⟨_, _, _, _⟩⟩; rcases b with ⟨_, _, _, _, _, _, ⟨_, _, _, _⟩⟩; simp [DObject.cells] at h; simp_all⟩
structure DBinding where
  Name : ByteArray
  Value : DValue
def DBinding.cells (x : DBinding) : List T := [.str x.Name, .int .i64 x.Value.Kind, .int .i64 x.Value.Num, .str x.Value.Text, .int .i64 x.Value.Ref]
instance : Enc DBinding := ⟨DBinding.cells, 5, fun _ => rfl, fun _ => rfl, fun x => by simp [DBinding.cells, pureL, pureT], fun a b h => by
  rcases a with ⟨_, ⟨_, _, _, _⟩⟩; rcases b with ⟨_, ⟨_, _, _, _⟩⟩; simp [DBinding.cells] at h; simp_all⟩
structure DFunction where
  Name : ByteArray
  Params : (Sl ByteArray)
  Locals : (Sl ByteArray)
  Label : ByteArray
def DFunction.cells (x : DFunction) : List T := [.str x.Name, (Sl.t (x.Params : Sl ByteArray)), (Sl.t (x.Locals : Sl ByteArray)), .str x.Label]
instance : Enc DFunction := ⟨DFunction.cells, 4, fun _ => rfl, fun _ => rfl, fun x => by simp [DFunction.cells, pureL, pureT], fun a b h => by
  rcases a with ⟨_, _, _, _⟩; rcases b with ⟨_, _, _, _⟩; simp [DFunction.cells] at h; simp_all⟩
structure DRecordType where
  Name : ByteArray
  Fields : (Sl ByteArray)
def DRecordType.cells (x : DRecordType) : List T := [.str x.Name, (Sl.t (x.Fields : Sl ByteArray))]
instance : Enc DRecordType := ⟨DRecordType.cells, 2, fun _ => rfl, fun _ => rfl, fun x => by simp [DRecordType.cells, pureL, pureT], fun a b h => by
  rcases a with ⟨_, _⟩; rcases b with ⟨_, _⟩; simp [DRecordType.cells] at h; simp_all⟩
structure DFile where
  Name : ByteArray
  Lines : (Sl ByteArray)
  Mode : Int
  At : Int
def DFile.cells (x : DFile) : List T := [.str x.Name, (Sl.t (x.Lines : Sl ByteArray)), .int .i64 x.Mode, .int .i64 x.At]
instance : Enc DFile := ⟨DFile.cells, 4, fun _ => rfl, fun _ => rfl, fun x => by simp [DFile.cells, pureL, pureT], fun a b h => by
  rcases a with ⟨_, _, _, _⟩; rcases b with ⟨_, _, _, _⟩; simp [DFile.cells] at h; simp_all⟩
structure DHeap where
  Next : Int
  Objects : (Sl DObject)
def DHeap.cells (x : DHeap) : List T := [.int .i64 x.Next, (Sl.t (x.Objects : Sl DObject))]
instance : Enc DHeap := ⟨DHeap.cells, 2, fun _ => rfl, fun _ => rfl, fun x => by simp [DHeap.cells, pureL, pureT], fun a b h => by
  rcases a with ⟨_, _⟩; rcases b with ⟨_, _⟩; simp [DHeap.cells] at h; simp_all⟩
structure DScope where
  Vars : (Sl DBinding)
  Functions : (Sl DFunction)
  Types : (Sl DRecordType)
def DScope.cells (x : DScope) : List T := [(Sl.t (x.Vars : Sl DBinding)), (Sl.t (x.Functions : Sl DFunction)), (Sl.t (x.Types : Sl DRecordType))]
instance : Enc DScope := ⟨DScope.cells, 3, fun _ => rfl, fun _ => rfl, fun x => by simp [DScope.cells, pureL, pureT], fun a b h => by
  rcases a with ⟨_, _, _⟩; rcases b with ⟨_, _, _⟩; simp [DScope.cells] at h; simp_all⟩
structure DConsole where
  Input : (Sl ByteArray)
  At : Int
  Output : (Sl ByteArray)
  Files : (Sl DFile)
  Trace : (Sl ByteArray)
def DConsole.cells (x : DConsole) : List T := [(Sl.t (x.Input : Sl ByteArray)), .int .i64 x.At, (Sl.t (x.Output : Sl ByteArray)), (Sl.t (x.Files : Sl DFile)), (Sl.t (x.Trace : Sl ByteArray))]
instance : Enc DConsole := ⟨DConsole.cells, 5, fun _ => rfl, fun _ => rfl, fun x => by simp [DConsole.cells, pureL, pureT], fun a b h => by
  rcases a with ⟨_, _, _, _, _⟩; rcases b with ⟨_, _, _, _, _⟩; simp [DConsole.cells] at h; simp_all⟩
structure DMemory where
  Heap : DHeap
  Scope : DScope
  Console : DConsole
def DMemory.cells (x : DMemory) : List T := [.int .i64 x.Heap.Next, (Sl.t (x.Heap.Objects : Sl DObject)), (Sl.t (x.Scope.Vars : Sl DBinding)), (Sl.t (x.Scope.Functions : Sl DFunction)), (Sl.t (x.Scope.Types : Sl DRecordType)), (Sl.t (x.Console.Input : Sl ByteArray)), .int .i64 x.Console.At, (Sl.t (x.Console.Output : Sl ByteArray)), (Sl.t (x.Console.Files : Sl DFile)), (Sl.t (x.Console.Trace : Sl ByteArray))]
instance : Enc DMemory := ⟨DMemory.cells, 10, fun _ => rfl, fun _ => rfl, fun x => by simp [DMemory.cells, pureL, pureT], fun a b h => by
  rcases a with ⟨⟨_, _⟩, ⟨_, _, _⟩, ⟨_, _, _, _, _⟩⟩; rcases b with ⟨⟨_, _⟩, ⟨_, _, _⟩, ⟨_, _, _, _, _⟩⟩; simp [DMemory.cells] at h; simp_all⟩
structure DDesk where
  Source : (Sl ByteArray)
  Input : (Sl ByteArray)
  Memory : DMemory
  At : Int
  Steps : Int
  Image : ByteArray
  Saved : Int
def DDesk.cells (x : DDesk) : List T := [(Sl.t (x.Source : Sl ByteArray)), (Sl.t (x.Input : Sl ByteArray)), .int .i64 x.Memory.Heap.Next, (Sl.t (x.Memory.Heap.Objects : Sl DObject)), (Sl.t (x.Memory.Scope.Vars : Sl DBinding)), (Sl.t (x.Memory.Scope.Functions : Sl DFunction)), (Sl.t (x.Memory.Scope.Types : Sl DRecordType)), (Sl.t (x.Memory.Console.Input : Sl ByteArray)), .int .i64 x.Memory.Console.At, (Sl.t (x.Memory.Console.Output : Sl ByteArray)), (Sl.t (x.Memory.Console.Files : Sl DFile)), (Sl.t (x.Memory.Console.Trace : Sl ByteArray)), .int .i64 x.At, .int .i64 x.Steps, .str x.Image, .int .i64 x.Saved]
instance : Enc DDesk := ⟨DDesk.cells, 16, fun _ => rfl, fun _ => rfl, fun x => by simp [DDesk.cells, pureL, pureT], fun a b h => by
  rcases a with ⟨_, _, ⟨⟨_, _⟩, ⟨_, _, _⟩, ⟨_, _, _, _, _⟩⟩, _, _, _, _⟩; rcases b with ⟨_, _, ⟨⟨_, _⟩, ⟨_, _, _⟩, ⟨_, _, _, _, _⟩⟩, _, _, _, _⟩; simp [DDesk.cells] at h; simp_all⟩
def md : Nat → Md := fun f => bif [5, 6, 12, 24, 25, 44, 45, 46, 74, 75, 76, 77, 78, 98, 100, 101, 102, 113].elem f then .own else bif [].elem f then .raw else .view
def ext : Ext := fun _ => none
theorem len1 {hs : List T} (h : hs.length = 1) : ∃ a0, hs = [a0] := by
  rcases hs with _ | ⟨a0, _ | ⟨x, l⟩⟩ <;> simp at h
  exact ⟨a0, rfl⟩
theorem len2 {hs : List T} (h : hs.length = 2) : ∃ a0 a1, hs = [a0, a1] := by
  rcases hs with _ | ⟨a0, _ | ⟨a1, _ | ⟨x, l⟩⟩⟩ <;> simp at h
  exact ⟨a0, a1, rfl⟩
theorem len3 {hs : List T} (h : hs.length = 3) : ∃ a0 a1 a2, hs = [a0, a1, a2] := by
  rcases hs with _ | ⟨a0, _ | ⟨a1, _ | ⟨a2, _ | ⟨x, l⟩⟩⟩⟩ <;> simp at h
  exact ⟨a0, a1, a2, rfl⟩
theorem len4 {hs : List T} (h : hs.length = 4) : ∃ a0 a1 a2 a3, hs = [a0, a1, a2, a3] := by
  rcases hs with _ | ⟨a0, _ | ⟨a1, _ | ⟨a2, _ | ⟨a3, _ | ⟨x, l⟩⟩⟩⟩⟩ <;> simp at h
  exact ⟨a0, a1, a2, a3, rfl⟩
theorem len8 {hs : List T} (h : hs.length = 8) : ∃ a0 a1 a2 a3 a4 a5 a6 a7, hs = [a0, a1, a2, a3, a4, a5, a6, a7] := by
  rcases hs with _ | ⟨a0, _ | ⟨a1, _ | ⟨a2, _ | ⟨a3, _ | ⟨a4, _ | ⟨a5, _ | ⟨a6, _ | ⟨a7, _ | ⟨x, l⟩⟩⟩⟩⟩⟩⟩⟩⟩ <;> simp at h
  exact ⟨a0, a1, a2, a3, a4, a5, a6, a7, rfl⟩
theorem len10 {hs : List T} (h : hs.length = 10) : ∃ a0 a1 a2 a3 a4 a5 a6 a7 a8 a9, hs = [a0, a1, a2, a3, a4, a5, a6, a7, a8, a9] := by
  rcases hs with _ | ⟨a0, _ | ⟨a1, _ | ⟨a2, _ | ⟨a3, _ | ⟨a4, _ | ⟨a5, _ | ⟨a6, _ | ⟨a7, _ | ⟨a8, _ | ⟨a9, _ | ⟨x, l⟩⟩⟩⟩⟩⟩⟩⟩⟩⟩⟩ <;> simp at h
  exact ⟨a0, a1, a2, a3, a4, a5, a6, a7, a8, a9, rfl⟩
def E_bool : Bool → T := fun y => .bool y
theorem E_bool_inj : ∀ a b, E_bool a = E_bool b → a = b := inj_bool
def E_DDesk : DDesk → T := fun y => .agg (DDesk.cells y)
theorem E_DDesk_inj : ∀ a b, E_DDesk a = E_DDesk b → a = b := inj_agg
def E_i64 : Int → T := fun y => .int .i64 y
theorem E_i64_inj : ∀ a b, E_i64 a = E_i64 b → a = b := inj_int
def E_sl_str : (Sl ByteArray) → T := fun y => (Sl.t (y : Sl ByteArray))
theorem E_sl_str_inj : ∀ a b, E_sl_str a = E_sl_str b → a = b := inj_sl
def E_DMemory : DMemory → T := fun y => .agg (DMemory.cells y)
theorem E_DMemory_inj : ∀ a b, E_DMemory a = E_DMemory b → a = b := inj_agg
def E_str : ByteArray → T := fun y => .str y
theorem E_str_inj : ∀ a b, E_str a = E_str b → a = b := inj_str
def E_DHeap : DHeap → T := fun y => .agg (DHeap.cells y)
theorem E_DHeap_inj : ∀ a b, E_DHeap a = E_DHeap b → a = b := inj_agg
def E_DScope : DScope → T := fun y => .agg (DScope.cells y)
theorem E_DScope_inj : ∀ a b, E_DScope a = E_DScope b → a = b := inj_agg
def E_DConsole : DConsole → T := fun y => .agg (DConsole.cells y)
theorem E_DConsole_inj : ∀ a b, E_DConsole a = E_DConsole b → a = b := inj_agg
def E_sl_DObject : (Sl DObject) → T := fun y => (Sl.t (y : Sl DObject))
theorem E_sl_DObject_inj : ∀ a b, E_sl_DObject a = E_sl_DObject b → a = b := inj_sl
def E_sl_DBinding : (Sl DBinding) → T := fun y => (Sl.t (y : Sl DBinding))
theorem E_sl_DBinding_inj : ∀ a b, E_sl_DBinding a = E_sl_DBinding b → a = b := inj_sl
def E_sl_DFunction : (Sl DFunction) → T := fun y => (Sl.t (y : Sl DFunction))
theorem E_sl_DFunction_inj : ∀ a b, E_sl_DFunction a = E_sl_DFunction b → a = b := inj_sl
def E_sl_DRecordType : (Sl DRecordType) → T := fun y => (Sl.t (y : Sl DRecordType))
theorem E_sl_DRecordType_inj : ∀ a b, E_sl_DRecordType a = E_sl_DRecordType b → a = b := inj_sl
def E_sl_DFile : (Sl DFile) → T := fun y => (Sl.t (y : Sl DFile))
theorem E_sl_DFile_inj : ∀ a b, E_sl_DFile a = E_sl_DFile b → a = b := inj_sl
def E_DObject : DObject → T := fun y => .agg (DObject.cells y)
theorem E_DObject_inj : ∀ a b, E_DObject a = E_DObject b → a = b := inj_agg
def E_DBinding : DBinding → T := fun y => .agg (DBinding.cells y)
theorem E_DBinding_inj : ∀ a b, E_DBinding a = E_DBinding b → a = b := inj_agg
def E_DFunction : DFunction → T := fun y => .agg (DFunction.cells y)
theorem E_DFunction_inj : ∀ a b, E_DFunction a = E_DFunction b → a = b := inj_agg
def E_DRecordType : DRecordType → T := fun y => .agg (DRecordType.cells y)
theorem E_DRecordType_inj : ∀ a b, E_DRecordType a = E_DRecordType b → a = b := inj_agg
def E_DFile : DFile → T := fun y => .agg (DFile.cells y)
theorem E_DFile_inj : ∀ a b, E_DFile a = E_DFile b → a = b := inj_agg
def E_sl_DValue : (Sl DValue) → T := fun y => (Sl.t (y : Sl DValue))
theorem E_sl_DValue_inj : ∀ a b, E_sl_DValue a = E_sl_DValue b → a = b := inj_sl
def E_DValue : DValue → T := fun y => .agg (DValue.cells y)
theorem E_DValue_inj : ∀ a b, E_DValue a = E_DValue b → a = b := inj_agg
noncomputable def Sh_DDesk : Shape DDesk := ⟨10, fun hs y => match hs with | [h1, h2, h3, h4, h5, h6, h7, h8, h9, h10] => .agg [h1, h2, .int .i64 y.Memory.Heap.Next, h3, h4, h5, h6, h7, .int .i64 y.Memory.Console.At, h8, h9, h10, .int .i64 y.At, .int .i64 y.Steps, .str y.Image, .int .i64 y.Saved] | _ => .tup [], fun hs y => match hs with | [h1, h2, h3, h4, h5, h6, h7, h8, h9, h10] => [.own true 1 h1 (Sl.t (y.Source : Sl ByteArray)), .own true 1 h2 (Sl.t (y.Input : Sl ByteArray)), .own true 10 h3 (Sl.t (y.Memory.Heap.Objects : Sl DObject)), .own true 5 h4 (Sl.t (y.Memory.Scope.Vars : Sl DBinding)), .own true 4 h5 (Sl.t (y.Memory.Scope.Functions : Sl DFunction)), .own true 2 h6 (Sl.t (y.Memory.Scope.Types : Sl DRecordType)), .own true 1 h7 (Sl.t (y.Memory.Console.Input : Sl ByteArray)), .own true 1 h8 (Sl.t (y.Memory.Console.Output : Sl ByteArray)), .own true 4 h9 (Sl.t (y.Memory.Console.Files : Sl DFile)), .own true 1 h10 (Sl.t (y.Memory.Console.Trace : Sl ByteArray))] | _ => [], E_DDesk, fun hs y h => by
  obtain ⟨h1, h2, h3, h4, h5, h6, h7, h8, h9, h10, rfl⟩ := len10 h
  exact (HL.agg (es1 := [.own true 1 h1 (Sl.t (y.Source : Sl ByteArray)), .own true 1 h2 (Sl.t (y.Input : Sl ByteArray)), .own true 10 h3 (Sl.t (y.Memory.Heap.Objects : Sl DObject)), .own true 5 h4 (Sl.t (y.Memory.Scope.Vars : Sl DBinding)), .own true 4 h5 (Sl.t (y.Memory.Scope.Functions : Sl DFunction)), .own true 2 h6 (Sl.t (y.Memory.Scope.Types : Sl DRecordType)), .own true 1 h7 (Sl.t (y.Memory.Console.Input : Sl ByteArray)), .own true 1 h8 (Sl.t (y.Memory.Console.Output : Sl ByteArray)), .own true 4 h9 (Sl.t (y.Memory.Console.Files : Sl DFile)), .own true 1 h10 (Sl.t (y.Memory.Console.Trace : Sl ByteArray))]) (es2 := []) (HL.own rfl (HL.own rfl (HL.leaf (fun σ d => by simp) (HL.own rfl (HL.own rfl (HL.own rfl (HL.own rfl (HL.own rfl (HL.leaf (fun σ d => by simp) (HL.own rfl (HL.own rfl (HL.own rfl (HL.leaf (fun σ d => by simp) (HL.leaf (fun σ d => by simp) (HL.leaf (fun σ d => by simp) (HL.leaf (fun σ d => by simp) HL.nil)))))))))))))))) HL.nil), E_DDesk_inj⟩
noncomputable def Sh_sl_str : Shape (Sl ByteArray) := ⟨1, fun hs y => match hs with | [h1] => h1 | _ => .tup [], fun hs y => match hs with | [h1] => [.own true 1 h1 (Sl.t (y : Sl ByteArray))] | _ => [], E_sl_str, fun hs y h => by
  obtain ⟨h1, rfl⟩ := len1 h
  exact (HL.own rfl HL.nil), E_sl_str_inj⟩
noncomputable def Sh_DMemory : Shape DMemory := ⟨8, fun hs y => match hs with | [h1, h2, h3, h4, h5, h6, h7, h8] => .agg [.int .i64 y.Heap.Next, h1, h2, h3, h4, h5, .int .i64 y.Console.At, h6, h7, h8] | _ => .tup [], fun hs y => match hs with | [h1, h2, h3, h4, h5, h6, h7, h8] => [.own true 10 h1 (Sl.t (y.Heap.Objects : Sl DObject)), .own true 5 h2 (Sl.t (y.Scope.Vars : Sl DBinding)), .own true 4 h3 (Sl.t (y.Scope.Functions : Sl DFunction)), .own true 2 h4 (Sl.t (y.Scope.Types : Sl DRecordType)), .own true 1 h5 (Sl.t (y.Console.Input : Sl ByteArray)), .own true 1 h6 (Sl.t (y.Console.Output : Sl ByteArray)), .own true 4 h7 (Sl.t (y.Console.Files : Sl DFile)), .own true 1 h8 (Sl.t (y.Console.Trace : Sl ByteArray))] | _ => [], E_DMemory, fun hs y h => by
  obtain ⟨h1, h2, h3, h4, h5, h6, h7, h8, rfl⟩ := len8 h
  exact (HL.agg (es1 := [.own true 10 h1 (Sl.t (y.Heap.Objects : Sl DObject)), .own true 5 h2 (Sl.t (y.Scope.Vars : Sl DBinding)), .own true 4 h3 (Sl.t (y.Scope.Functions : Sl DFunction)), .own true 2 h4 (Sl.t (y.Scope.Types : Sl DRecordType)), .own true 1 h5 (Sl.t (y.Console.Input : Sl ByteArray)), .own true 1 h6 (Sl.t (y.Console.Output : Sl ByteArray)), .own true 4 h7 (Sl.t (y.Console.Files : Sl DFile)), .own true 1 h8 (Sl.t (y.Console.Trace : Sl ByteArray))]) (es2 := []) (HL.leaf (fun σ d => by simp) (HL.own rfl (HL.own rfl (HL.own rfl (HL.own rfl (HL.own rfl (HL.leaf (fun σ d => by simp) (HL.own rfl (HL.own rfl (HL.own rfl HL.nil)))))))))) HL.nil), E_DMemory_inj⟩
noncomputable def Sh_DHeap : Shape DHeap := ⟨1, fun hs y => match hs with | [h1] => .agg [.int .i64 y.Next, h1] | _ => .tup [], fun hs y => match hs with | [h1] => [.own true 10 h1 (Sl.t (y.Objects : Sl DObject))] | _ => [], E_DHeap, fun hs y h => by
  obtain ⟨h1, rfl⟩ := len1 h
  exact (HL.agg (es1 := [.own true 10 h1 (Sl.t (y.Objects : Sl DObject))]) (es2 := []) (HL.leaf (fun σ d => by simp) (HL.own rfl HL.nil)) HL.nil), E_DHeap_inj⟩
noncomputable def Sh_DScope : Shape DScope := ⟨3, fun hs y => match hs with | [h1, h2, h3] => .agg [h1, h2, h3] | _ => .tup [], fun hs y => match hs with | [h1, h2, h3] => [.own true 5 h1 (Sl.t (y.Vars : Sl DBinding)), .own true 4 h2 (Sl.t (y.Functions : Sl DFunction)), .own true 2 h3 (Sl.t (y.Types : Sl DRecordType))] | _ => [], E_DScope, fun hs y h => by
  obtain ⟨h1, h2, h3, rfl⟩ := len3 h
  exact (HL.agg (es1 := [.own true 5 h1 (Sl.t (y.Vars : Sl DBinding)), .own true 4 h2 (Sl.t (y.Functions : Sl DFunction)), .own true 2 h3 (Sl.t (y.Types : Sl DRecordType))]) (es2 := []) (HL.own rfl (HL.own rfl (HL.own rfl HL.nil))) HL.nil), E_DScope_inj⟩
noncomputable def Sh_DConsole : Shape DConsole := ⟨4, fun hs y => match hs with | [h1, h2, h3, h4] => .agg [h1, .int .i64 y.At, h2, h3, h4] | _ => .tup [], fun hs y => match hs with | [h1, h2, h3, h4] => [.own true 1 h1 (Sl.t (y.Input : Sl ByteArray)), .own true 1 h2 (Sl.t (y.Output : Sl ByteArray)), .own true 4 h3 (Sl.t (y.Files : Sl DFile)), .own true 1 h4 (Sl.t (y.Trace : Sl ByteArray))] | _ => [], E_DConsole, fun hs y h => by
  obtain ⟨h1, h2, h3, h4, rfl⟩ := len4 h
  exact (HL.agg (es1 := [.own true 1 h1 (Sl.t (y.Input : Sl ByteArray)), .own true 1 h2 (Sl.t (y.Output : Sl ByteArray)), .own true 4 h3 (Sl.t (y.Files : Sl DFile)), .own true 1 h4 (Sl.t (y.Trace : Sl ByteArray))]) (es2 := []) (HL.own rfl (HL.leaf (fun σ d => by simp) (HL.own rfl (HL.own rfl (HL.own rfl HL.nil))))) HL.nil), E_DConsole_inj⟩
noncomputable def Sh_sl_DObject : Shape (Sl DObject) := ⟨1, fun hs y => match hs with | [h1] => h1 | _ => .tup [], fun hs y => match hs with | [h1] => [.own true 10 h1 (Sl.t (y : Sl DObject))] | _ => [], E_sl_DObject, fun hs y h => by
  obtain ⟨h1, rfl⟩ := len1 h
  exact (HL.own rfl HL.nil), E_sl_DObject_inj⟩
noncomputable def Sh_sl_DBinding : Shape (Sl DBinding) := ⟨1, fun hs y => match hs with | [h1] => h1 | _ => .tup [], fun hs y => match hs with | [h1] => [.own true 5 h1 (Sl.t (y : Sl DBinding))] | _ => [], E_sl_DBinding, fun hs y h => by
  obtain ⟨h1, rfl⟩ := len1 h
  exact (HL.own rfl HL.nil), E_sl_DBinding_inj⟩
noncomputable def Sh_sl_DFunction : Shape (Sl DFunction) := ⟨1, fun hs y => match hs with | [h1] => h1 | _ => .tup [], fun hs y => match hs with | [h1] => [.own true 4 h1 (Sl.t (y : Sl DFunction))] | _ => [], E_sl_DFunction, fun hs y h => by
  obtain ⟨h1, rfl⟩ := len1 h
  exact (HL.own rfl HL.nil), E_sl_DFunction_inj⟩
noncomputable def Sh_sl_DRecordType : Shape (Sl DRecordType) := ⟨1, fun hs y => match hs with | [h1] => h1 | _ => .tup [], fun hs y => match hs with | [h1] => [.own true 2 h1 (Sl.t (y : Sl DRecordType))] | _ => [], E_sl_DRecordType, fun hs y h => by
  obtain ⟨h1, rfl⟩ := len1 h
  exact (HL.own rfl HL.nil), E_sl_DRecordType_inj⟩
noncomputable def Sh_sl_DFile : Shape (Sl DFile) := ⟨1, fun hs y => match hs with | [h1] => h1 | _ => .tup [], fun hs y => match hs with | [h1] => [.own true 4 h1 (Sl.t (y : Sl DFile))] | _ => [], E_sl_DFile, fun hs y h => by
  obtain ⟨h1, rfl⟩ := len1 h
  exact (HL.own rfl HL.nil), E_sl_DFile_inj⟩
noncomputable def Sh_DObject : Shape DObject := ⟨2, fun hs y => match hs with | [h1, h2] => .agg [.int .i64 y.Id, .int .i64 y.Kind, .str y.Name, .int .i64 y.Low, h1, h2, .int .i64 y.Default.Kind, .int .i64 y.Default.Num, .str y.Default.Text, .int .i64 y.Default.Ref] | _ => .tup [], fun hs y => match hs with | [h1, h2] => [.own true 4 h1 (Sl.t (y.Keys : Sl DValue)), .own true 4 h2 (Sl.t (y.Vals : Sl DValue))] | _ => [], E_DObject, fun hs y h => by
  obtain ⟨h1, h2, rfl⟩ := len2 h
  exact (HL.agg (es1 := [.own true 4 h1 (Sl.t (y.Keys : Sl DValue)), .own true 4 h2 (Sl.t (y.Vals : Sl DValue))]) (es2 := []) (HL.leaf (fun σ d => by simp) (HL.leaf (fun σ d => by simp) (HL.leaf (fun σ d => by simp) (HL.leaf (fun σ d => by simp) (HL.own rfl (HL.own rfl (HL.leaf (fun σ d => by simp) (HL.leaf (fun σ d => by simp) (HL.leaf (fun σ d => by simp) (HL.leaf (fun σ d => by simp) HL.nil)))))))))) HL.nil), E_DObject_inj⟩
noncomputable def Sh_DFunction : Shape DFunction := ⟨2, fun hs y => match hs with | [h1, h2] => .agg [.str y.Name, h1, h2, .str y.Label] | _ => .tup [], fun hs y => match hs with | [h1, h2] => [.own true 1 h1 (Sl.t (y.Params : Sl ByteArray)), .own true 1 h2 (Sl.t (y.Locals : Sl ByteArray))] | _ => [], E_DFunction, fun hs y h => by
  obtain ⟨h1, h2, rfl⟩ := len2 h
  exact (HL.agg (es1 := [.own true 1 h1 (Sl.t (y.Params : Sl ByteArray)), .own true 1 h2 (Sl.t (y.Locals : Sl ByteArray))]) (es2 := []) (HL.leaf (fun σ d => by simp) (HL.own rfl (HL.own rfl (HL.leaf (fun σ d => by simp) HL.nil)))) HL.nil), E_DFunction_inj⟩
noncomputable def Sh_DRecordType : Shape DRecordType := ⟨1, fun hs y => match hs with | [h1] => .agg [.str y.Name, h1] | _ => .tup [], fun hs y => match hs with | [h1] => [.own true 1 h1 (Sl.t (y.Fields : Sl ByteArray))] | _ => [], E_DRecordType, fun hs y h => by
  obtain ⟨h1, rfl⟩ := len1 h
  exact (HL.agg (es1 := [.own true 1 h1 (Sl.t (y.Fields : Sl ByteArray))]) (es2 := []) (HL.leaf (fun σ d => by simp) (HL.own rfl HL.nil)) HL.nil), E_DRecordType_inj⟩
noncomputable def Sh_DFile : Shape DFile := ⟨1, fun hs y => match hs with | [h1] => .agg [.str y.Name, h1, .int .i64 y.Mode, .int .i64 y.At] | _ => .tup [], fun hs y => match hs with | [h1] => [.own true 1 h1 (Sl.t (y.Lines : Sl ByteArray))] | _ => [], E_DFile, fun hs y h => by
  obtain ⟨h1, rfl⟩ := len1 h
  exact (HL.agg (es1 := [.own true 1 h1 (Sl.t (y.Lines : Sl ByteArray))]) (es2 := []) (HL.leaf (fun σ d => by simp) (HL.own rfl (HL.leaf (fun σ d => by simp) (HL.leaf (fun σ d => by simp) HL.nil)))) HL.nil), E_DFile_inj⟩
noncomputable def Sh_sl_DValue : Shape (Sl DValue) := ⟨1, fun hs y => match hs with | [h1] => h1 | _ => .tup [], fun hs y => match hs with | [h1] => [.own true 4 h1 (Sl.t (y : Sl DValue))] | _ => [], E_sl_DValue, fun hs y h => by
  obtain ⟨h1, rfl⟩ := len1 h
  exact (HL.own rfl HL.nil), E_sl_DValue_inj⟩
noncomputable def F_laws_FnExactNewDesk  : Option Bool := semV Try.prog md ext E_bool 3 []
noncomputable def F_laws_FnExactSameDesk (a0 : DDesk) (a1 : DDesk) : Option Bool := semV Try.prog md ext E_bool 4 [(.agg (DDesk.cells a0)), (.agg (DDesk.cells a1))]
noncomputable def F_spec_NewDesk  : Option DDesk := semO Try.prog md ext Sh_DDesk 5 []
noncomputable def F_impl_NewDesk  : Option DDesk := semO Try.prog md ext Sh_DDesk 6 []
noncomputable def F_laws_eqDesk (a0 : DDesk) (a1 : DDesk) : Option Bool := semV Try.prog md ext E_bool 7 [(.agg (DDesk.cells a0)), (.agg (DDesk.cells a1))]
noncomputable def F_laws_markDesk (a0 : DDesk) (a1 : Int) : Option Int := semV Try.prog md ext E_i64 8 [(.agg (DDesk.cells a0)), (.int .i64 a1)]
noncomputable def F_laws_heldDesk (a0 : DDesk) (a1 : Int) : Option Int := semV Try.prog md ext E_i64 9 [(.agg (DDesk.cells a0)), (.int .i64 a1)]
noncomputable def F_laws_szDesk (a0 : DDesk) (a1 : Int) : Option Int := semV Try.prog md ext E_i64 10 [(.agg (DDesk.cells a0)), (.int .i64 a1)]
noncomputable def F_spec_SameDesk (a0 : DDesk) (a1 : DDesk) : Option Bool := semV Try.prog md ext E_bool 11 [(.agg (DDesk.cells a0)), (.agg (DDesk.cells a1))]
noncomputable def F_laws_toDesk (a0 : DDesk) : Option DDesk := semO Try.prog md ext Sh_DDesk 12 [(.agg (DDesk.cells a0))]
noncomputable def F_impl_SameDesk (a0 : DDesk) (a1 : DDesk) : Option Bool := semV Try.prog md ext E_bool 13 [(.agg (DDesk.cells a0)), (.agg (DDesk.cells a1))]
noncomputable def F_laws_eqStringS (a0 : (Sl ByteArray)) (a1 : (Sl ByteArray)) : Option Bool := semV Try.prog md ext E_bool 14 [(Sl.t (a0 : Sl ByteArray)), (Sl.t (a1 : Sl ByteArray))]
noncomputable def F_laws_eqMemory (a0 : DMemory) (a1 : DMemory) : Option Bool := semV Try.prog md ext E_bool 15 [(.agg (DMemory.cells a0)), (.agg (DMemory.cells a1))]
noncomputable def F_laws_markStringS (a0 : (Sl ByteArray)) (a1 : Int) : Option Int := semV Try.prog md ext E_i64 16 [(Sl.t (a0 : Sl ByteArray)), (.int .i64 a1)]
noncomputable def F_laws_markMemory (a0 : DMemory) (a1 : Int) : Option Int := semV Try.prog md ext E_i64 17 [(.agg (DMemory.cells a0)), (.int .i64 a1)]
noncomputable def F_laws_heldStringS (a0 : (Sl ByteArray)) (a1 : Int) : Option Int := semV Try.prog md ext E_i64 18 [(Sl.t (a0 : Sl ByteArray)), (.int .i64 a1)]
noncomputable def F_laws_heldMemory (a0 : DMemory) (a1 : Int) : Option Int := semV Try.prog md ext E_i64 19 [(.agg (DMemory.cells a0)), (.int .i64 a1)]
noncomputable def F_laws_szStringS (a0 : (Sl ByteArray)) (a1 : Int) : Option Int := semV Try.prog md ext E_i64 20 [(Sl.t (a0 : Sl ByteArray)), (.int .i64 a1)]
noncomputable def F_laws_szMemory (a0 : DMemory) (a1 : Int) : Option Int := semV Try.prog md ext E_i64 21 [(.agg (DMemory.cells a0)), (.int .i64 a1)]
noncomputable def F_spec_l21SameTexts (a0 : (Sl ByteArray)) (a1 : (Sl ByteArray)) : Option Bool := semV Try.prog md ext E_bool 22 [(Sl.t (a0 : Sl ByteArray)), (Sl.t (a1 : Sl ByteArray))]
noncomputable def F_spec_SameMemory (a0 : DMemory) (a1 : DMemory) : Option Bool := semV Try.prog md ext E_bool 23 [(.agg (DMemory.cells a0)), (.agg (DMemory.cells a1))]
noncomputable def F_laws_toStringS (a0 : (Sl ByteArray)) : Option (Sl ByteArray) := semO Try.prog md ext Sh_sl_str 24 [(Sl.t (a0 : Sl ByteArray))]
noncomputable def F_laws_toMemory (a0 : DMemory) : Option DMemory := semO Try.prog md ext Sh_DMemory 25 [(.agg (DMemory.cells a0))]
noncomputable def F_slices_Equal_string (a0 : (Sl ByteArray)) (a1 : (Sl ByteArray)) : Option Bool := semV Try.prog md ext E_bool 26 [(Sl.t (a0 : Sl ByteArray)), (Sl.t (a1 : Sl ByteArray))]
noncomputable def F_impl_SameMemory (a0 : DMemory) (a1 : DMemory) : Option Bool := semV Try.prog md ext E_bool 27 [(.agg (DMemory.cells a0)), (.agg (DMemory.cells a1))]
noncomputable def F_laws_eqHeap (a0 : DHeap) (a1 : DHeap) : Option Bool := semV Try.prog md ext E_bool 28 [(.agg (DHeap.cells a0)), (.agg (DHeap.cells a1))]
noncomputable def F_laws_eqScope (a0 : DScope) (a1 : DScope) : Option Bool := semV Try.prog md ext E_bool 29 [(.agg (DScope.cells a0)), (.agg (DScope.cells a1))]
noncomputable def F_laws_eqConsole (a0 : DConsole) (a1 : DConsole) : Option Bool := semV Try.prog md ext E_bool 30 [(.agg (DConsole.cells a0)), (.agg (DConsole.cells a1))]
noncomputable def F_laws_markText (a0 : Int) : Option ByteArray := semV Try.prog md ext E_str 31 [(.int .i64 a0)]
noncomputable def F_laws_markHeap (a0 : DHeap) (a1 : Int) : Option Int := semV Try.prog md ext E_i64 32 [(.agg (DHeap.cells a0)), (.int .i64 a1)]
noncomputable def F_laws_markScope (a0 : DScope) (a1 : Int) : Option Int := semV Try.prog md ext E_i64 33 [(.agg (DScope.cells a0)), (.int .i64 a1)]
noncomputable def F_laws_markConsole (a0 : DConsole) (a1 : Int) : Option Int := semV Try.prog md ext E_i64 34 [(.agg (DConsole.cells a0)), (.int .i64 a1)]
noncomputable def F_laws_heldHeap (a0 : DHeap) (a1 : Int) : Option Int := semV Try.prog md ext E_i64 35 [(.agg (DHeap.cells a0)), (.int .i64 a1)]
noncomputable def F_laws_heldScope (a0 : DScope) (a1 : Int) : Option Int := semV Try.prog md ext E_i64 36 [(.agg (DScope.cells a0)), (.int .i64 a1)]
noncomputable def F_laws_heldConsole (a0 : DConsole) (a1 : Int) : Option Int := semV Try.prog md ext E_i64 37 [(.agg (DConsole.cells a0)), (.int .i64 a1)]
noncomputable def F_laws_szHeap (a0 : DHeap) (a1 : Int) : Option Int := semV Try.prog md ext E_i64 38 [(.agg (DHeap.cells a0)), (.int .i64 a1)]
noncomputable def F_laws_szScope (a0 : DScope) (a1 : Int) : Option Int := semV Try.prog md ext E_i64 39 [(.agg (DScope.cells a0)), (.int .i64 a1)]
noncomputable def F_laws_szConsole (a0 : DConsole) (a1 : Int) : Option Int := semV Try.prog md ext E_i64 40 [(.agg (DConsole.cells a0)), (.int .i64 a1)]
noncomputable def F_spec_SameHeap (a0 : DHeap) (a1 : DHeap) : Option Bool := semV Try.prog md ext E_bool 41 [(.agg (DHeap.cells a0)), (.agg (DHeap.cells a1))]
noncomputable def F_spec_SameScope (a0 : DScope) (a1 : DScope) : Option Bool := semV Try.prog md ext E_bool 42 [(.agg (DScope.cells a0)), (.agg (DScope.cells a1))]
noncomputable def F_spec_SameConsole (a0 : DConsole) (a1 : DConsole) : Option Bool := semV Try.prog md ext E_bool 43 [(.agg (DConsole.cells a0)), (.agg (DConsole.cells a1))]
noncomputable def F_laws_toHeap (a0 : DHeap) : Option DHeap := semO Try.prog md ext Sh_DHeap 44 [(.agg (DHeap.cells a0))]
noncomputable def F_laws_toScope (a0 : DScope) : Option DScope := semO Try.prog md ext Sh_DScope 45 [(.agg (DScope.cells a0))]
noncomputable def F_laws_toConsole (a0 : DConsole) : Option DConsole := semO Try.prog md ext Sh_DConsole 46 [(.agg (DConsole.cells a0))]
noncomputable def F_impl_SameHeap (a0 : DHeap) (a1 : DHeap) : Option Bool := semV Try.prog md ext E_bool 47 [(.agg (DHeap.cells a0)), (.agg (DHeap.cells a1))]
noncomputable def F_impl_SameScope (a0 : DScope) (a1 : DScope) : Option Bool := semV Try.prog md ext E_bool 48 [(.agg (DScope.cells a0)), (.agg (DScope.cells a1))]
noncomputable def F_impl_SameConsole (a0 : DConsole) (a1 : DConsole) : Option Bool := semV Try.prog md ext E_bool 49 [(.agg (DConsole.cells a0)), (.agg (DConsole.cells a1))]
noncomputable def F_laws_eqObjectS (a0 : (Sl DObject)) (a1 : (Sl DObject)) : Option Bool := semV Try.prog md ext E_bool 50 [(Sl.t (a0 : Sl DObject)), (Sl.t (a1 : Sl DObject))]
noncomputable def F_laws_eqBindingS (a0 : (Sl DBinding)) (a1 : (Sl DBinding)) : Option Bool := semV Try.prog md ext E_bool 51 [(Sl.t (a0 : Sl DBinding)), (Sl.t (a1 : Sl DBinding))]
noncomputable def F_laws_eqFunctionS (a0 : (Sl DFunction)) (a1 : (Sl DFunction)) : Option Bool := semV Try.prog md ext E_bool 52 [(Sl.t (a0 : Sl DFunction)), (Sl.t (a1 : Sl DFunction))]
noncomputable def F_laws_eqRecordTypeS (a0 : (Sl DRecordType)) (a1 : (Sl DRecordType)) : Option Bool := semV Try.prog md ext E_bool 53 [(Sl.t (a0 : Sl DRecordType)), (Sl.t (a1 : Sl DRecordType))]
noncomputable def F_laws_eqFileS (a0 : (Sl DFile)) (a1 : (Sl DFile)) : Option Bool := semV Try.prog md ext E_bool 54 [(Sl.t (a0 : Sl DFile)), (Sl.t (a1 : Sl DFile))]
noncomputable def F_laws_markObjectS (a0 : (Sl DObject)) (a1 : Int) : Option Int := semV Try.prog md ext E_i64 55 [(Sl.t (a0 : Sl DObject)), (.int .i64 a1)]
noncomputable def F_laws_markBindingS (a0 : (Sl DBinding)) (a1 : Int) : Option Int := semV Try.prog md ext E_i64 56 [(Sl.t (a0 : Sl DBinding)), (.int .i64 a1)]
noncomputable def F_laws_markFunctionS (a0 : (Sl DFunction)) (a1 : Int) : Option Int := semV Try.prog md ext E_i64 57 [(Sl.t (a0 : Sl DFunction)), (.int .i64 a1)]
noncomputable def F_laws_markRecordTypeS (a0 : (Sl DRecordType)) (a1 : Int) : Option Int := semV Try.prog md ext E_i64 58 [(Sl.t (a0 : Sl DRecordType)), (.int .i64 a1)]
noncomputable def F_laws_markFileS (a0 : (Sl DFile)) (a1 : Int) : Option Int := semV Try.prog md ext E_i64 59 [(Sl.t (a0 : Sl DFile)), (.int .i64 a1)]
noncomputable def F_laws_heldObjectS (a0 : (Sl DObject)) (a1 : Int) : Option Int := semV Try.prog md ext E_i64 60 [(Sl.t (a0 : Sl DObject)), (.int .i64 a1)]
noncomputable def F_laws_heldBindingS (a0 : (Sl DBinding)) (a1 : Int) : Option Int := semV Try.prog md ext E_i64 61 [(Sl.t (a0 : Sl DBinding)), (.int .i64 a1)]
noncomputable def F_laws_heldFunctionS (a0 : (Sl DFunction)) (a1 : Int) : Option Int := semV Try.prog md ext E_i64 62 [(Sl.t (a0 : Sl DFunction)), (.int .i64 a1)]
noncomputable def F_laws_heldRecordTypeS (a0 : (Sl DRecordType)) (a1 : Int) : Option Int := semV Try.prog md ext E_i64 63 [(Sl.t (a0 : Sl DRecordType)), (.int .i64 a1)]
noncomputable def F_laws_heldFileS (a0 : (Sl DFile)) (a1 : Int) : Option Int := semV Try.prog md ext E_i64 64 [(Sl.t (a0 : Sl DFile)), (.int .i64 a1)]
noncomputable def F_laws_szObjectS (a0 : (Sl DObject)) (a1 : Int) : Option Int := semV Try.prog md ext E_i64 65 [(Sl.t (a0 : Sl DObject)), (.int .i64 a1)]
noncomputable def F_laws_szBindingS (a0 : (Sl DBinding)) (a1 : Int) : Option Int := semV Try.prog md ext E_i64 66 [(Sl.t (a0 : Sl DBinding)), (.int .i64 a1)]
noncomputable def F_laws_szFunctionS (a0 : (Sl DFunction)) (a1 : Int) : Option Int := semV Try.prog md ext E_i64 67 [(Sl.t (a0 : Sl DFunction)), (.int .i64 a1)]
noncomputable def F_laws_szRecordTypeS (a0 : (Sl DRecordType)) (a1 : Int) : Option Int := semV Try.prog md ext E_i64 68 [(Sl.t (a0 : Sl DRecordType)), (.int .i64 a1)]
noncomputable def F_laws_szFileS (a0 : (Sl DFile)) (a1 : Int) : Option Int := semV Try.prog md ext E_i64 69 [(Sl.t (a0 : Sl DFile)), (.int .i64 a1)]
noncomputable def F_spec_l07Same (a0 : DHeap) (a1 : DHeap) : Option Bool := semL Try.prog md ext E_bool 70 (fun bs => match bs with | [bp0, bp1] => [(.ptr bp0 0 0 2), (.ptr bp1 0 0 2)] | _ => []) [DHeap.cells a0, DHeap.cells a1]
noncomputable def F_spec_l18SameBindings (a0 : (Sl DBinding)) (a1 : (Sl DBinding)) : Option Bool := semV Try.prog md ext E_bool 71 [(Sl.t (a0 : Sl DBinding)), (Sl.t (a1 : Sl DBinding))]
noncomputable def F_spec_l18SameTexts (a0 : (Sl ByteArray)) (a1 : (Sl ByteArray)) : Option Bool := semV Try.prog md ext E_bool 72 [(Sl.t (a0 : Sl ByteArray)), (Sl.t (a1 : Sl ByteArray))]
noncomputable def F_spec_l21SameFile (a0 : DFile) (a1 : DFile) : Option Bool := semV Try.prog md ext E_bool 73 [(.agg (DFile.cells a0)), (.agg (DFile.cells a1))]
noncomputable def F_laws_toObjectS (a0 : (Sl DObject)) : Option (Sl DObject) := semO Try.prog md ext Sh_sl_DObject 74 [(Sl.t (a0 : Sl DObject))]
noncomputable def F_laws_toBindingS (a0 : (Sl DBinding)) : Option (Sl DBinding) := semO Try.prog md ext Sh_sl_DBinding 75 [(Sl.t (a0 : Sl DBinding))]
noncomputable def F_laws_toFunctionS (a0 : (Sl DFunction)) : Option (Sl DFunction) := semO Try.prog md ext Sh_sl_DFunction 76 [(Sl.t (a0 : Sl DFunction))]
noncomputable def F_laws_toRecordTypeS (a0 : (Sl DRecordType)) : Option (Sl DRecordType) := semO Try.prog md ext Sh_sl_DRecordType 77 [(Sl.t (a0 : Sl DRecordType))]
noncomputable def F_laws_toFileS (a0 : (Sl DFile)) : Option (Sl DFile) := semO Try.prog md ext Sh_sl_DFile 78 [(Sl.t (a0 : Sl DFile))]
noncomputable def F_slices_EqualFunc_Object (a0 : (Sl DObject)) (a1 : (Sl DObject)) (a2 : T) : Option Bool := semV Try.prog md ext E_bool 79 [(Sl.t (a0 : Sl DObject)), (Sl.t (a1 : Sl DObject)), (a2)]
noncomputable def F_impl_sameObject (a0 : DObject) (a1 : DObject) : Option Bool := semV Try.prog md ext E_bool 80 [(.agg (DObject.cells a0)), (.agg (DObject.cells a1))]
noncomputable def F_slices_Equal_Binding (a0 : (Sl DBinding)) (a1 : (Sl DBinding)) : Option Bool := semV Try.prog md ext E_bool 81 [(Sl.t (a0 : Sl DBinding)), (Sl.t (a1 : Sl DBinding))]
noncomputable def F_impl_sameDefinitions (a0 : DScope) (a1 : DScope) : Option Bool := semV Try.prog md ext E_bool 82 [(.agg (DScope.cells a0)), (.agg (DScope.cells a1))]
noncomputable def F_slices_EqualFunc_File (a0 : (Sl DFile)) (a1 : (Sl DFile)) (a2 : T) : Option Bool := semV Try.prog md ext E_bool 83 [(Sl.t (a0 : Sl DFile)), (Sl.t (a1 : Sl DFile)), (a2)]
noncomputable def F_impl_sameFile (a0 : DFile) (a1 : DFile) : Option Bool := semV Try.prog md ext E_bool 84 [(.agg (DFile.cells a0)), (.agg (DFile.cells a1))]
noncomputable def F_laws_eqObject (a0 : DObject) (a1 : DObject) : Option Bool := semV Try.prog md ext E_bool 85 [(.agg (DObject.cells a0)), (.agg (DObject.cells a1))]
noncomputable def F_laws_eqBinding (a0 : DBinding) (a1 : DBinding) : Option Bool := semV Try.prog md ext E_bool 86 [(.agg (DBinding.cells a0)), (.agg (DBinding.cells a1))]
noncomputable def F_laws_eqFunction (a0 : DFunction) (a1 : DFunction) : Option Bool := semV Try.prog md ext E_bool 87 [(.agg (DFunction.cells a0)), (.agg (DFunction.cells a1))]
noncomputable def F_laws_eqRecordType (a0 : DRecordType) (a1 : DRecordType) : Option Bool := semV Try.prog md ext E_bool 88 [(.agg (DRecordType.cells a0)), (.agg (DRecordType.cells a1))]
noncomputable def F_laws_eqFile (a0 : DFile) (a1 : DFile) : Option Bool := semV Try.prog md ext E_bool 89 [(.agg (DFile.cells a0)), (.agg (DFile.cells a1))]
noncomputable def F_laws_markValueS (a0 : (Sl DValue)) (a1 : Int) : Option Int := semV Try.prog md ext E_i64 90 [(Sl.t (a0 : Sl DValue)), (.int .i64 a1)]
noncomputable def F_laws_heldValueS (a0 : (Sl DValue)) (a1 : Int) : Option Int := semV Try.prog md ext E_i64 91 [(Sl.t (a0 : Sl DValue)), (.int .i64 a1)]
noncomputable def F_laws_szObject (a0 : DObject) (a1 : Int) : Option Int := semV Try.prog md ext E_i64 92 [(.agg (DObject.cells a0)), (.int .i64 a1)]
noncomputable def F_laws_szBinding (a0 : DBinding) (a1 : Int) : Option Int := semV Try.prog md ext E_i64 93 [(.agg (DBinding.cells a0)), (.int .i64 a1)]
noncomputable def F_laws_szFunction (a0 : DFunction) (a1 : Int) : Option Int := semV Try.prog md ext E_i64 94 [(.agg (DFunction.cells a0)), (.int .i64 a1)]
noncomputable def F_laws_szRecordType (a0 : DRecordType) (a1 : Int) : Option Int := semV Try.prog md ext E_i64 95 [(.agg (DRecordType.cells a0)), (.int .i64 a1)]
noncomputable def F_laws_szFile (a0 : DFile) (a1 : Int) : Option Int := semV Try.prog md ext E_i64 96 [(.agg (DFile.cells a0)), (.int .i64 a1)]
noncomputable def F_spec_l07SameObject (a0 : DObject) (a1 : DObject) : Option Bool := semV Try.prog md ext E_bool 97 [(.agg (DObject.cells a0)), (.agg (DObject.cells a1))]
noncomputable def F_laws_toObject (a0 : DObject) : Option DObject := semO Try.prog md ext Sh_DObject 98 [(.agg (DObject.cells a0))]
noncomputable def F_laws_toBinding (a0 : DBinding) : Option DBinding := semV Try.prog md ext E_DBinding 99 [(.agg (DBinding.cells a0))]
noncomputable def F_laws_toFunction (a0 : DFunction) : Option DFunction := semO Try.prog md ext Sh_DFunction 100 [(.agg (DFunction.cells a0))]
noncomputable def F_laws_toRecordType (a0 : DRecordType) : Option DRecordType := semO Try.prog md ext Sh_DRecordType 101 [(.agg (DRecordType.cells a0))]
noncomputable def F_laws_toFile (a0 : DFile) : Option DFile := semO Try.prog md ext Sh_DFile 102 [(.agg (DFile.cells a0))]
noncomputable def F_slices_Equal_Value (a0 : (Sl DValue)) (a1 : (Sl DValue)) : Option Bool := semV Try.prog md ext E_bool 103 [(Sl.t (a0 : Sl DValue)), (Sl.t (a1 : Sl DValue))]
noncomputable def F_slices_EqualFunc_Function (a0 : (Sl DFunction)) (a1 : (Sl DFunction)) (a2 : T) : Option Bool := semV Try.prog md ext E_bool 104 [(Sl.t (a0 : Sl DFunction)), (Sl.t (a1 : Sl DFunction)), (a2)]
noncomputable def F_impl_sameFunction (a0 : DFunction) (a1 : DFunction) : Option Bool := semV Try.prog md ext E_bool 105 [(.agg (DFunction.cells a0)), (.agg (DFunction.cells a1))]
noncomputable def F_slices_EqualFunc_RecordType (a0 : (Sl DRecordType)) (a1 : (Sl DRecordType)) (a2 : T) : Option Bool := semV Try.prog md ext E_bool 106 [(Sl.t (a0 : Sl DRecordType)), (Sl.t (a1 : Sl DRecordType)), (a2)]
noncomputable def F_impl_sameType (a0 : DRecordType) (a1 : DRecordType) : Option Bool := semV Try.prog md ext E_bool 107 [(.agg (DRecordType.cells a0)), (.agg (DRecordType.cells a1))]
noncomputable def F_laws_eqValueS (a0 : (Sl DValue)) (a1 : (Sl DValue)) : Option Bool := semV Try.prog md ext E_bool 108 [(Sl.t (a0 : Sl DValue)), (Sl.t (a1 : Sl DValue))]
noncomputable def F_laws_eqValue (a0 : DValue) (a1 : DValue) : Option Bool := semV Try.prog md ext E_bool 109 [(.agg (DValue.cells a0)), (.agg (DValue.cells a1))]
noncomputable def F_laws_szValueS (a0 : (Sl DValue)) (a1 : Int) : Option Int := semV Try.prog md ext E_i64 110 [(Sl.t (a0 : Sl DValue)), (.int .i64 a1)]
noncomputable def F_laws_szValue (a0 : DValue) (a1 : Int) : Option Int := semV Try.prog md ext E_i64 111 [(.agg (DValue.cells a0)), (.int .i64 a1)]
noncomputable def F_spec_l07SameValues (a0 : (Sl DValue)) (a1 : (Sl DValue)) : Option Bool := semV Try.prog md ext E_bool 112 [(Sl.t (a0 : Sl DValue)), (Sl.t (a1 : Sl DValue))]
noncomputable def F_laws_toValueS (a0 : (Sl DValue)) : Option (Sl DValue) := semO Try.prog md ext Sh_sl_DValue 113 [(Sl.t (a0 : Sl DValue))]
noncomputable def F_laws_toValue (a0 : DValue) : Option DValue := semV Try.prog md ext E_DValue 114 [(.agg (DValue.cells a0))]
theorem ok_3 : Ok Try.prog 3 (Try.f3.body.getD .skip) Try.f3.ntmps Try.f3.results.toList := ⟨Try.f3, by kernel_rfl, by kernel_rfl, by kernel_rfl, by kernel_rfl, rfl, rfl⟩
theorem ok_4 : Ok Try.prog 4 (Try.f4.body.getD .skip) Try.f4.ntmps Try.f4.results.toList := ⟨Try.f4, by kernel_rfl, by kernel_rfl, by kernel_rfl, by kernel_rfl, rfl, rfl⟩
theorem ok_5 : Ok Try.prog 5 (Try.f5.body.getD .skip) Try.f5.ntmps Try.f5.results.toList := ⟨Try.f5, by kernel_rfl, by kernel_rfl, by kernel_rfl, by kernel_rfl, rfl, rfl⟩
theorem ok_6 : Ok Try.prog 6 (Try.f6.body.getD .skip) Try.f6.ntmps Try.f6.results.toList := ⟨Try.f6, by kernel_rfl, by kernel_rfl, by kernel_rfl, by kernel_rfl, rfl, rfl⟩
theorem ok_7 : Ok Try.prog 7 (Try.f7.body.getD .skip) Try.f7.ntmps Try.f7.results.toList := ⟨Try.f7, by kernel_rfl, by kernel_rfl, by kernel_rfl, by kernel_rfl, rfl, rfl⟩
theorem ok_8 : Ok Try.prog 8 (Try.f8.body.getD .skip) Try.f8.ntmps Try.f8.results.toList := ⟨Try.f8, by kernel_rfl, by kernel_rfl, by kernel_rfl, by kernel_rfl, rfl, rfl⟩
theorem ok_9 : Ok Try.prog 9 (Try.f9.body.getD .skip) Try.f9.ntmps Try.f9.results.toList := ⟨Try.f9, by kernel_rfl, by kernel_rfl, by kernel_rfl, by kernel_rfl, rfl, rfl⟩
theorem ok_10 : Ok Try.prog 10 (Try.f10.body.getD .skip) Try.f10.ntmps Try.f10.results.toList := ⟨Try.f10, by kernel_rfl, by kernel_rfl, by kernel_rfl, by kernel_rfl, rfl, rfl⟩
theorem ok_11 : Ok Try.prog 11 (Try.f11.body.getD .skip) Try.f11.ntmps Try.f11.results.toList := ⟨Try.f11, by kernel_rfl, by kernel_rfl, by kernel_rfl, by kernel_rfl, rfl, rfl⟩
theorem ok_12 : Ok Try.prog 12 (Try.f12.body.getD .skip) Try.f12.ntmps Try.f12.results.toList := ⟨Try.f12, by kernel_rfl, by kernel_rfl, by kernel_rfl, by kernel_rfl, rfl, rfl⟩
theorem ok_13 : Ok Try.prog 13 (Try.f13.body.getD .skip) Try.f13.ntmps Try.f13.results.toList := ⟨Try.f13, by kernel_rfl, by kernel_rfl, by kernel_rfl, by kernel_rfl, rfl, rfl⟩
theorem ok_14 : Ok Try.prog 14 (Try.f14.body.getD .skip) Try.f14.ntmps Try.f14.results.toList := ⟨Try.f14, by kernel_rfl, by kernel_rfl, by kernel_rfl, by kernel_rfl, rfl, rfl⟩
theorem ok_15 : Ok Try.prog 15 (Try.f15.body.getD .skip) Try.f15.ntmps Try.f15.results.toList := ⟨Try.f15, by kernel_rfl, by kernel_rfl, by kernel_rfl, by kernel_rfl, rfl, rfl⟩
theorem ok_16 : Ok Try.prog 16 (Try.f16.body.getD .skip) Try.f16.ntmps Try.f16.results.toList := ⟨Try.f16, by kernel_rfl, by kernel_rfl, by kernel_rfl, by kernel_rfl, rfl, rfl⟩
theorem ok_17 : Ok Try.prog 17 (Try.f17.body.getD .skip) Try.f17.ntmps Try.f17.results.toList := ⟨Try.f17, by kernel_rfl, by kernel_rfl, by kernel_rfl, by kernel_rfl, rfl, rfl⟩
theorem ok_18 : Ok Try.prog 18 (Try.f18.body.getD .skip) Try.f18.ntmps Try.f18.results.toList := ⟨Try.f18, by kernel_rfl, by kernel_rfl, by kernel_rfl, by kernel_rfl, rfl, rfl⟩
theorem ok_19 : Ok Try.prog 19 (Try.f19.body.getD .skip) Try.f19.ntmps Try.f19.results.toList := ⟨Try.f19, by kernel_rfl, by kernel_rfl, by kernel_rfl, by kernel_rfl, rfl, rfl⟩
theorem ok_20 : Ok Try.prog 20 (Try.f20.body.getD .skip) Try.f20.ntmps Try.f20.results.toList := ⟨Try.f20, by kernel_rfl, by kernel_rfl, by kernel_rfl, by kernel_rfl, rfl, rfl⟩
theorem ok_21 : Ok Try.prog 21 (Try.f21.body.getD .skip) Try.f21.ntmps Try.f21.results.toList := ⟨Try.f21, by kernel_rfl, by kernel_rfl, by kernel_rfl, by kernel_rfl, rfl, rfl⟩
theorem ok_22 : Ok Try.prog 22 (Try.f22.body.getD .skip) Try.f22.ntmps Try.f22.results.toList := ⟨Try.f22, by kernel_rfl, by kernel_rfl, by kernel_rfl, by kernel_rfl, rfl, rfl⟩
theorem ok_23 : Ok Try.prog 23 (Try.f23.body.getD .skip) Try.f23.ntmps Try.f23.results.toList := ⟨Try.f23, by kernel_rfl, by kernel_rfl, by kernel_rfl, by kernel_rfl, rfl, rfl⟩
theorem ok_24 : Ok Try.prog 24 (Try.f24.body.getD .skip) Try.f24.ntmps Try.f24.results.toList := ⟨Try.f24, by kernel_rfl, by kernel_rfl, by kernel_rfl, by kernel_rfl, rfl, rfl⟩
theorem ok_25 : Ok Try.prog 25 (Try.f25.body.getD .skip) Try.f25.ntmps Try.f25.results.toList := ⟨Try.f25, by kernel_rfl, by kernel_rfl, by kernel_rfl, by kernel_rfl, rfl, rfl⟩
theorem ok_26 : Ok Try.prog 26 (Try.f26.body.getD .skip) Try.f26.ntmps Try.f26.results.toList := ⟨Try.f26, by kernel_rfl, by kernel_rfl, by kernel_rfl, by kernel_rfl, rfl, rfl⟩
theorem ok_27 : Ok Try.prog 27 (Try.f27.body.getD .skip) Try.f27.ntmps Try.f27.results.toList := ⟨Try.f27, by kernel_rfl, by kernel_rfl, by kernel_rfl, by kernel_rfl, rfl, rfl⟩
theorem ok_28 : Ok Try.prog 28 (Try.f28.body.getD .skip) Try.f28.ntmps Try.f28.results.toList := ⟨Try.f28, by kernel_rfl, by kernel_rfl, by kernel_rfl, by kernel_rfl, rfl, rfl⟩
theorem ok_29 : Ok Try.prog 29 (Try.f29.body.getD .skip) Try.f29.ntmps Try.f29.results.toList := ⟨Try.f29, by kernel_rfl, by kernel_rfl, by kernel_rfl, by kernel_rfl, rfl, rfl⟩
theorem ok_30 : Ok Try.prog 30 (Try.f30.body.getD .skip) Try.f30.ntmps Try.f30.results.toList := ⟨Try.f30, by kernel_rfl, by kernel_rfl, by kernel_rfl, by kernel_rfl, rfl, rfl⟩
theorem ok_31 : Ok Try.prog 31 (Try.f31.body.getD .skip) Try.f31.ntmps Try.f31.results.toList := ⟨Try.f31, by kernel_rfl, by kernel_rfl, by kernel_rfl, by kernel_rfl, rfl, rfl⟩
theorem ok_32 : Ok Try.prog 32 (Try.f32.body.getD .skip) Try.f32.ntmps Try.f32.results.toList := ⟨Try.f32, by kernel_rfl, by kernel_rfl, by kernel_rfl, by kernel_rfl, rfl, rfl⟩
theorem ok_33 : Ok Try.prog 33 (Try.f33.body.getD .skip) Try.f33.ntmps Try.f33.results.toList := ⟨Try.f33, by kernel_rfl, by kernel_rfl, by kernel_rfl, by kernel_rfl, rfl, rfl⟩
theorem ok_34 : Ok Try.prog 34 (Try.f34.body.getD .skip) Try.f34.ntmps Try.f34.results.toList := ⟨Try.f34, by kernel_rfl, by kernel_rfl, by kernel_rfl, by kernel_rfl, rfl, rfl⟩
theorem ok_35 : Ok Try.prog 35 (Try.f35.body.getD .skip) Try.f35.ntmps Try.f35.results.toList := ⟨Try.f35, by kernel_rfl, by kernel_rfl, by kernel_rfl, by kernel_rfl, rfl, rfl⟩
theorem ok_36 : Ok Try.prog 36 (Try.f36.body.getD .skip) Try.f36.ntmps Try.f36.results.toList := ⟨Try.f36, by kernel_rfl, by kernel_rfl, by kernel_rfl, by kernel_rfl, rfl, rfl⟩
theorem ok_37 : Ok Try.prog 37 (Try.f37.body.getD .skip) Try.f37.ntmps Try.f37.results.toList := ⟨Try.f37, by kernel_rfl, by kernel_rfl, by kernel_rfl, by kernel_rfl, rfl, rfl⟩
theorem ok_38 : Ok Try.prog 38 (Try.f38.body.getD .skip) Try.f38.ntmps Try.f38.results.toList := ⟨Try.f38, by kernel_rfl, by kernel_rfl, by kernel_rfl, by kernel_rfl, rfl, rfl⟩
theorem ok_39 : Ok Try.prog 39 (Try.f39.body.getD .skip) Try.f39.ntmps Try.f39.results.toList := ⟨Try.f39, by kernel_rfl, by kernel_rfl, by kernel_rfl, by kernel_rfl, rfl, rfl⟩
theorem ok_40 : Ok Try.prog 40 (Try.f40.body.getD .skip) Try.f40.ntmps Try.f40.results.toList := ⟨Try.f40, by kernel_rfl, by kernel_rfl, by kernel_rfl, by kernel_rfl, rfl, rfl⟩
theorem ok_41 : Ok Try.prog 41 (Try.f41.body.getD .skip) Try.f41.ntmps Try.f41.results.toList := ⟨Try.f41, by kernel_rfl, by kernel_rfl, by kernel_rfl, by kernel_rfl, rfl, rfl⟩
theorem ok_42 : Ok Try.prog 42 (Try.f42.body.getD .skip) Try.f42.ntmps Try.f42.results.toList := ⟨Try.f42, by kernel_rfl, by kernel_rfl, by kernel_rfl, by kernel_rfl, rfl, rfl⟩
theorem ok_43 : Ok Try.prog 43 (Try.f43.body.getD .skip) Try.f43.ntmps Try.f43.results.toList := ⟨Try.f43, by kernel_rfl, by kernel_rfl, by kernel_rfl, by kernel_rfl, rfl, rfl⟩
theorem ok_44 : Ok Try.prog 44 (Try.f44.body.getD .skip) Try.f44.ntmps Try.f44.results.toList := ⟨Try.f44, by kernel_rfl, by kernel_rfl, by kernel_rfl, by kernel_rfl, rfl, rfl⟩
theorem ok_45 : Ok Try.prog 45 (Try.f45.body.getD .skip) Try.f45.ntmps Try.f45.results.toList := ⟨Try.f45, by kernel_rfl, by kernel_rfl, by kernel_rfl, by kernel_rfl, rfl, rfl⟩
theorem ok_46 : Ok Try.prog 46 (Try.f46.body.getD .skip) Try.f46.ntmps Try.f46.results.toList := ⟨Try.f46, by kernel_rfl, by kernel_rfl, by kernel_rfl, by kernel_rfl, rfl, rfl⟩
theorem ok_47 : Ok Try.prog 47 (Try.f47.body.getD .skip) Try.f47.ntmps Try.f47.results.toList := ⟨Try.f47, by kernel_rfl, by kernel_rfl, by kernel_rfl, by kernel_rfl, rfl, rfl⟩
theorem ok_48 : Ok Try.prog 48 (Try.f48.body.getD .skip) Try.f48.ntmps Try.f48.results.toList := ⟨Try.f48, by kernel_rfl, by kernel_rfl, by kernel_rfl, by kernel_rfl, rfl, rfl⟩
theorem ok_49 : Ok Try.prog 49 (Try.f49.body.getD .skip) Try.f49.ntmps Try.f49.results.toList := ⟨Try.f49, by kernel_rfl, by kernel_rfl, by kernel_rfl, by kernel_rfl, rfl, rfl⟩
theorem ok_50 : Ok Try.prog 50 (Try.f50.body.getD .skip) Try.f50.ntmps Try.f50.results.toList := ⟨Try.f50, by kernel_rfl, by kernel_rfl, by kernel_rfl, by kernel_rfl, rfl, rfl⟩
theorem ok_51 : Ok Try.prog 51 (Try.f51.body.getD .skip) Try.f51.ntmps Try.f51.results.toList := ⟨Try.f51, by kernel_rfl, by kernel_rfl, by kernel_rfl, by kernel_rfl, rfl, rfl⟩
theorem ok_52 : Ok Try.prog 52 (Try.f52.body.getD .skip) Try.f52.ntmps Try.f52.results.toList := ⟨Try.f52, by kernel_rfl, by kernel_rfl, by kernel_rfl, by kernel_rfl, rfl, rfl⟩
theorem ok_53 : Ok Try.prog 53 (Try.f53.body.getD .skip) Try.f53.ntmps Try.f53.results.toList := ⟨Try.f53, by kernel_rfl, by kernel_rfl, by kernel_rfl, by kernel_rfl, rfl, rfl⟩
theorem ok_54 : Ok Try.prog 54 (Try.f54.body.getD .skip) Try.f54.ntmps Try.f54.results.toList := ⟨Try.f54, by kernel_rfl, by kernel_rfl, by kernel_rfl, by kernel_rfl, rfl, rfl⟩
theorem ok_55 : Ok Try.prog 55 (Try.f55.body.getD .skip) Try.f55.ntmps Try.f55.results.toList := ⟨Try.f55, by kernel_rfl, by kernel_rfl, by kernel_rfl, by kernel_rfl, rfl, rfl⟩
theorem ok_56 : Ok Try.prog 56 (Try.f56.body.getD .skip) Try.f56.ntmps Try.f56.results.toList := ⟨Try.f56, by kernel_rfl, by kernel_rfl, by kernel_rfl, by kernel_rfl, rfl, rfl⟩
theorem ok_57 : Ok Try.prog 57 (Try.f57.body.getD .skip) Try.f57.ntmps Try.f57.results.toList := ⟨Try.f57, by kernel_rfl, by kernel_rfl, by kernel_rfl, by kernel_rfl, rfl, rfl⟩
theorem ok_58 : Ok Try.prog 58 (Try.f58.body.getD .skip) Try.f58.ntmps Try.f58.results.toList := ⟨Try.f58, by kernel_rfl, by kernel_rfl, by kernel_rfl, by kernel_rfl, rfl, rfl⟩
theorem ok_59 : Ok Try.prog 59 (Try.f59.body.getD .skip) Try.f59.ntmps Try.f59.results.toList := ⟨Try.f59, by kernel_rfl, by kernel_rfl, by kernel_rfl, by kernel_rfl, rfl, rfl⟩
theorem ok_60 : Ok Try.prog 60 (Try.f60.body.getD .skip) Try.f60.ntmps Try.f60.results.toList := ⟨Try.f60, by kernel_rfl, by kernel_rfl, by kernel_rfl, by kernel_rfl, rfl, rfl⟩
theorem ok_61 : Ok Try.prog 61 (Try.f61.body.getD .skip) Try.f61.ntmps Try.f61.results.toList := ⟨Try.f61, by kernel_rfl, by kernel_rfl, by kernel_rfl, by kernel_rfl, rfl, rfl⟩
theorem ok_62 : Ok Try.prog 62 (Try.f62.body.getD .skip) Try.f62.ntmps Try.f62.results.toList := ⟨Try.f62, by kernel_rfl, by kernel_rfl, by kernel_rfl, by kernel_rfl, rfl, rfl⟩
theorem ok_63 : Ok Try.prog 63 (Try.f63.body.getD .skip) Try.f63.ntmps Try.f63.results.toList := ⟨Try.f63, by kernel_rfl, by kernel_rfl, by kernel_rfl, by kernel_rfl, rfl, rfl⟩
theorem ok_64 : Ok Try.prog 64 (Try.f64.body.getD .skip) Try.f64.ntmps Try.f64.results.toList := ⟨Try.f64, by kernel_rfl, by kernel_rfl, by kernel_rfl, by kernel_rfl, rfl, rfl⟩
theorem ok_65 : Ok Try.prog 65 (Try.f65.body.getD .skip) Try.f65.ntmps Try.f65.results.toList := ⟨Try.f65, by kernel_rfl, by kernel_rfl, by kernel_rfl, by kernel_rfl, rfl, rfl⟩
theorem ok_66 : Ok Try.prog 66 (Try.f66.body.getD .skip) Try.f66.ntmps Try.f66.results.toList := ⟨Try.f66, by kernel_rfl, by kernel_rfl, by kernel_rfl, by kernel_rfl, rfl, rfl⟩
theorem ok_67 : Ok Try.prog 67 (Try.f67.body.getD .skip) Try.f67.ntmps Try.f67.results.toList := ⟨Try.f67, by kernel_rfl, by kernel_rfl, by kernel_rfl, by kernel_rfl, rfl, rfl⟩
theorem ok_68 : Ok Try.prog 68 (Try.f68.body.getD .skip) Try.f68.ntmps Try.f68.results.toList := ⟨Try.f68, by kernel_rfl, by kernel_rfl, by kernel_rfl, by kernel_rfl, rfl, rfl⟩
theorem ok_69 : Ok Try.prog 69 (Try.f69.body.getD .skip) Try.f69.ntmps Try.f69.results.toList := ⟨Try.f69, by kernel_rfl, by kernel_rfl, by kernel_rfl, by kernel_rfl, rfl, rfl⟩
theorem ok_70 : Ok Try.prog 70 (Try.f70.body.getD .skip) Try.f70.ntmps Try.f70.results.toList := ⟨Try.f70, by kernel_rfl, by kernel_rfl, by kernel_rfl, by kernel_rfl, rfl, rfl⟩
theorem ok_71 : Ok Try.prog 71 (Try.f71.body.getD .skip) Try.f71.ntmps Try.f71.results.toList := ⟨Try.f71, by kernel_rfl, by kernel_rfl, by kernel_rfl, by kernel_rfl, rfl, rfl⟩
theorem ok_72 : Ok Try.prog 72 (Try.f72.body.getD .skip) Try.f72.ntmps Try.f72.results.toList := ⟨Try.f72, by kernel_rfl, by kernel_rfl, by kernel_rfl, by kernel_rfl, rfl, rfl⟩
theorem ok_73 : Ok Try.prog 73 (Try.f73.body.getD .skip) Try.f73.ntmps Try.f73.results.toList := ⟨Try.f73, by kernel_rfl, by kernel_rfl, by kernel_rfl, by kernel_rfl, rfl, rfl⟩
theorem ok_74 : Ok Try.prog 74 (Try.f74.body.getD .skip) Try.f74.ntmps Try.f74.results.toList := ⟨Try.f74, by kernel_rfl, by kernel_rfl, by kernel_rfl, by kernel_rfl, rfl, rfl⟩
theorem ok_75 : Ok Try.prog 75 (Try.f75.body.getD .skip) Try.f75.ntmps Try.f75.results.toList := ⟨Try.f75, by kernel_rfl, by kernel_rfl, by kernel_rfl, by kernel_rfl, rfl, rfl⟩
theorem ok_76 : Ok Try.prog 76 (Try.f76.body.getD .skip) Try.f76.ntmps Try.f76.results.toList := ⟨Try.f76, by kernel_rfl, by kernel_rfl, by kernel_rfl, by kernel_rfl, rfl, rfl⟩
theorem ok_77 : Ok Try.prog 77 (Try.f77.body.getD .skip) Try.f77.ntmps Try.f77.results.toList := ⟨Try.f77, by kernel_rfl, by kernel_rfl, by kernel_rfl, by kernel_rfl, rfl, rfl⟩
theorem ok_78 : Ok Try.prog 78 (Try.f78.body.getD .skip) Try.f78.ntmps Try.f78.results.toList := ⟨Try.f78, by kernel_rfl, by kernel_rfl, by kernel_rfl, by kernel_rfl, rfl, rfl⟩
theorem ok_79 : Ok Try.prog 79 (Try.f79.body.getD .skip) Try.f79.ntmps Try.f79.results.toList := ⟨Try.f79, by kernel_rfl, by kernel_rfl, by kernel_rfl, by kernel_rfl, rfl, rfl⟩
theorem ok_80 : Ok Try.prog 80 (Try.f80.body.getD .skip) Try.f80.ntmps Try.f80.results.toList := ⟨Try.f80, by kernel_rfl, by kernel_rfl, by kernel_rfl, by kernel_rfl, rfl, rfl⟩
theorem ok_81 : Ok Try.prog 81 (Try.f81.body.getD .skip) Try.f81.ntmps Try.f81.results.toList := ⟨Try.f81, by kernel_rfl, by kernel_rfl, by kernel_rfl, by kernel_rfl, rfl, rfl⟩
theorem ok_82 : Ok Try.prog 82 (Try.f82.body.getD .skip) Try.f82.ntmps Try.f82.results.toList := ⟨Try.f82, by kernel_rfl, by kernel_rfl, by kernel_rfl, by kernel_rfl, rfl, rfl⟩
theorem ok_83 : Ok Try.prog 83 (Try.f83.body.getD .skip) Try.f83.ntmps Try.f83.results.toList := ⟨Try.f83, by kernel_rfl, by kernel_rfl, by kernel_rfl, by kernel_rfl, rfl, rfl⟩
theorem ok_84 : Ok Try.prog 84 (Try.f84.body.getD .skip) Try.f84.ntmps Try.f84.results.toList := ⟨Try.f84, by kernel_rfl, by kernel_rfl, by kernel_rfl, by kernel_rfl, rfl, rfl⟩
theorem ok_85 : Ok Try.prog 85 (Try.f85.body.getD .skip) Try.f85.ntmps Try.f85.results.toList := ⟨Try.f85, by kernel_rfl, by kernel_rfl, by kernel_rfl, by kernel_rfl, rfl, rfl⟩
theorem ok_86 : Ok Try.prog 86 (Try.f86.body.getD .skip) Try.f86.ntmps Try.f86.results.toList := ⟨Try.f86, by kernel_rfl, by kernel_rfl, by kernel_rfl, by kernel_rfl, rfl, rfl⟩
theorem ok_87 : Ok Try.prog 87 (Try.f87.body.getD .skip) Try.f87.ntmps Try.f87.results.toList := ⟨Try.f87, by kernel_rfl, by kernel_rfl, by kernel_rfl, by kernel_rfl, rfl, rfl⟩
theorem ok_88 : Ok Try.prog 88 (Try.f88.body.getD .skip) Try.f88.ntmps Try.f88.results.toList := ⟨Try.f88, by kernel_rfl, by kernel_rfl, by kernel_rfl, by kernel_rfl, rfl, rfl⟩
theorem ok_89 : Ok Try.prog 89 (Try.f89.body.getD .skip) Try.f89.ntmps Try.f89.results.toList := ⟨Try.f89, by kernel_rfl, by kernel_rfl, by kernel_rfl, by kernel_rfl, rfl, rfl⟩
theorem ok_90 : Ok Try.prog 90 (Try.f90.body.getD .skip) Try.f90.ntmps Try.f90.results.toList := ⟨Try.f90, by kernel_rfl, by kernel_rfl, by kernel_rfl, by kernel_rfl, rfl, rfl⟩
theorem ok_91 : Ok Try.prog 91 (Try.f91.body.getD .skip) Try.f91.ntmps Try.f91.results.toList := ⟨Try.f91, by kernel_rfl, by kernel_rfl, by kernel_rfl, by kernel_rfl, rfl, rfl⟩
theorem ok_92 : Ok Try.prog 92 (Try.f92.body.getD .skip) Try.f92.ntmps Try.f92.results.toList := ⟨Try.f92, by kernel_rfl, by kernel_rfl, by kernel_rfl, by kernel_rfl, rfl, rfl⟩
theorem ok_93 : Ok Try.prog 93 (Try.f93.body.getD .skip) Try.f93.ntmps Try.f93.results.toList := ⟨Try.f93, by kernel_rfl, by kernel_rfl, by kernel_rfl, by kernel_rfl, rfl, rfl⟩
theorem ok_94 : Ok Try.prog 94 (Try.f94.body.getD .skip) Try.f94.ntmps Try.f94.results.toList := ⟨Try.f94, by kernel_rfl, by kernel_rfl, by kernel_rfl, by kernel_rfl, rfl, rfl⟩
theorem ok_95 : Ok Try.prog 95 (Try.f95.body.getD .skip) Try.f95.ntmps Try.f95.results.toList := ⟨Try.f95, by kernel_rfl, by kernel_rfl, by kernel_rfl, by kernel_rfl, rfl, rfl⟩
theorem ok_96 : Ok Try.prog 96 (Try.f96.body.getD .skip) Try.f96.ntmps Try.f96.results.toList := ⟨Try.f96, by kernel_rfl, by kernel_rfl, by kernel_rfl, by kernel_rfl, rfl, rfl⟩
theorem ok_97 : Ok Try.prog 97 (Try.f97.body.getD .skip) Try.f97.ntmps Try.f97.results.toList := ⟨Try.f97, by kernel_rfl, by kernel_rfl, by kernel_rfl, by kernel_rfl, rfl, rfl⟩
theorem ok_98 : Ok Try.prog 98 (Try.f98.body.getD .skip) Try.f98.ntmps Try.f98.results.toList := ⟨Try.f98, by kernel_rfl, by kernel_rfl, by kernel_rfl, by kernel_rfl, rfl, rfl⟩
theorem ok_99 : Ok Try.prog 99 (Try.f99.body.getD .skip) Try.f99.ntmps Try.f99.results.toList := ⟨Try.f99, by kernel_rfl, by kernel_rfl, by kernel_rfl, by kernel_rfl, rfl, rfl⟩
theorem ok_100 : Ok Try.prog 100 (Try.f100.body.getD .skip) Try.f100.ntmps Try.f100.results.toList := ⟨Try.f100, by kernel_rfl, by kernel_rfl, by kernel_rfl, by kernel_rfl, rfl, rfl⟩
theorem ok_101 : Ok Try.prog 101 (Try.f101.body.getD .skip) Try.f101.ntmps Try.f101.results.toList := ⟨Try.f101, by kernel_rfl, by kernel_rfl, by kernel_rfl, by kernel_rfl, rfl, rfl⟩
theorem ok_102 : Ok Try.prog 102 (Try.f102.body.getD .skip) Try.f102.ntmps Try.f102.results.toList := ⟨Try.f102, by kernel_rfl, by kernel_rfl, by kernel_rfl, by kernel_rfl, rfl, rfl⟩
theorem ok_103 : Ok Try.prog 103 (Try.f103.body.getD .skip) Try.f103.ntmps Try.f103.results.toList := ⟨Try.f103, by kernel_rfl, by kernel_rfl, by kernel_rfl, by kernel_rfl, rfl, rfl⟩
theorem ok_104 : Ok Try.prog 104 (Try.f104.body.getD .skip) Try.f104.ntmps Try.f104.results.toList := ⟨Try.f104, by kernel_rfl, by kernel_rfl, by kernel_rfl, by kernel_rfl, rfl, rfl⟩
theorem ok_105 : Ok Try.prog 105 (Try.f105.body.getD .skip) Try.f105.ntmps Try.f105.results.toList := ⟨Try.f105, by kernel_rfl, by kernel_rfl, by kernel_rfl, by kernel_rfl, rfl, rfl⟩
theorem ok_106 : Ok Try.prog 106 (Try.f106.body.getD .skip) Try.f106.ntmps Try.f106.results.toList := ⟨Try.f106, by kernel_rfl, by kernel_rfl, by kernel_rfl, by kernel_rfl, rfl, rfl⟩
theorem ok_107 : Ok Try.prog 107 (Try.f107.body.getD .skip) Try.f107.ntmps Try.f107.results.toList := ⟨Try.f107, by kernel_rfl, by kernel_rfl, by kernel_rfl, by kernel_rfl, rfl, rfl⟩
theorem ok_108 : Ok Try.prog 108 (Try.f108.body.getD .skip) Try.f108.ntmps Try.f108.results.toList := ⟨Try.f108, by kernel_rfl, by kernel_rfl, by kernel_rfl, by kernel_rfl, rfl, rfl⟩
theorem ok_109 : Ok Try.prog 109 (Try.f109.body.getD .skip) Try.f109.ntmps Try.f109.results.toList := ⟨Try.f109, by kernel_rfl, by kernel_rfl, by kernel_rfl, by kernel_rfl, rfl, rfl⟩
theorem ok_110 : Ok Try.prog 110 (Try.f110.body.getD .skip) Try.f110.ntmps Try.f110.results.toList := ⟨Try.f110, by kernel_rfl, by kernel_rfl, by kernel_rfl, by kernel_rfl, rfl, rfl⟩
theorem ok_111 : Ok Try.prog 111 (Try.f111.body.getD .skip) Try.f111.ntmps Try.f111.results.toList := ⟨Try.f111, by kernel_rfl, by kernel_rfl, by kernel_rfl, by kernel_rfl, rfl, rfl⟩
theorem ok_112 : Ok Try.prog 112 (Try.f112.body.getD .skip) Try.f112.ntmps Try.f112.results.toList := ⟨Try.f112, by kernel_rfl, by kernel_rfl, by kernel_rfl, by kernel_rfl, rfl, rfl⟩
theorem ok_113 : Ok Try.prog 113 (Try.f113.body.getD .skip) Try.f113.ntmps Try.f113.results.toList := ⟨Try.f113, by kernel_rfl, by kernel_rfl, by kernel_rfl, by kernel_rfl, rfl, rfl⟩
theorem ok_114 : Ok Try.prog 114 (Try.f114.body.getD .skip) Try.f114.ntmps Try.f114.results.toList := ⟨Try.f114, by kernel_rfl, by kernel_rfl, by kernel_rfl, by kernel_rfl, rfl, rfl⟩
end Go.Am
end
