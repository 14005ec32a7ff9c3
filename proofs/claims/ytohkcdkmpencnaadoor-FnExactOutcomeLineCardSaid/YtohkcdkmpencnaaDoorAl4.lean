/- The law. -/
import Derived.Test.YtohkcdkmpencnaaDoorAd0
import Derived.Test.YtohkcdkmpencnaaDoorAl3
import Derived.Test.YtohkcdkmpencnaaDoorAm4
section
set_option maxRecDepth 100000
set_option maxHeartbeats 1000000
set_option linter.unusedVariables false
set_option linter.unusedSimpArgs false
namespace Go.Am
open Go.Proofs
theorem ktS : kindT Go.Proofs.Tryd.prog 9 = 3 := by kernel_rfl
theorem ktI : kindT Go.Proofs.Tryd.prog 2 = 2 := by kernel_rfl
theorem un_i64 : Go.Proofs.Tryd.prog.underlying 2 = some (.int .i64) := by kernel_rfl
theorem d_i64 {d : Nat} {ts : List T} (h : Shp Go.Proofs.Tryd.prog d 2 ts) : ∃ n : Int, ts = [.int .i64 n] := shp_int un_i64 ktI h
theorem d_String {d : Nat} {ts : List T} (h : Shp Go.Proofs.Tryd.prog d 9 ts) : ∃ x : ByteArray, ts = Enc.cells x ∧ BdString x := by
  obtain ⟨s, rfl, g⟩ := shp_str ktS h
  exact ⟨s, rfl, g⟩
theorem d_Value {d : Nat} {ts : List T} (h : Shp Go.Proofs.Tryd.prog d 172 ts) : ∃ x : DValue, ts = DValue.cells x ∧ BdValue x := by
  obtain ⟨d, g⟩ := shp_struct (by kernel_rfl) h
  rw [show (fieldsT Go.Proofs.Tryd.prog 172).map (·.type) = [2, 2, 9, 2] from by kernel_rfl] at g
  obtain ⟨a0, t0, rfl, -, q0, g⟩ := g
  obtain ⟨x0, rfl⟩ := d_i64 q0
  obtain ⟨a1, t1, rfl, -, q1, g⟩ := g
  obtain ⟨x1, rfl⟩ := d_i64 q1
  obtain ⟨a2, t2, rfl, -, q2, g⟩ := g
  obtain ⟨x2, rfl, b2⟩ := d_String q2
  obtain ⟨a3, t3, rfl, -, q3, g⟩ := g
  obtain ⟨x3, rfl⟩ := d_i64 q3
  cases g
  exact ⟨⟨x0, x1, x2, x3⟩, rfl, ⟨b2, trivial⟩⟩
theorem d_ValueS {d : Nat} {ts : List T} (h : Shp Go.Proofs.Tryd.prog d 171 ts) : ∃ x : Sl DValue, ts = [Sl.t x] ∧ FitS maxLen BdValue x := shp_sl (kt := by kernel_rfl) (he := by kernel_rfl) (fun d ts h => d_Value h) h
theorem d_Object {d : Nat} {ts : List T} (h : Shp Go.Proofs.Tryd.prog d 174 ts) : ∃ x : DObject, ts = DObject.cells x ∧ BdObject x := by
  obtain ⟨d, g⟩ := shp_struct (by kernel_rfl) h
  rw [show (fieldsT Go.Proofs.Tryd.prog 174).map (·.type) = [2, 2, 9, 2, 171, 171, 172] from by kernel_rfl] at g
  obtain ⟨a0, t0, rfl, -, q0, g⟩ := g
  obtain ⟨x0, rfl⟩ := d_i64 q0
  obtain ⟨a1, t1, rfl, -, q1, g⟩ := g
  obtain ⟨x1, rfl⟩ := d_i64 q1
  obtain ⟨a2, t2, rfl, -, q2, g⟩ := g
  obtain ⟨x2, rfl, b2⟩ := d_String q2
  obtain ⟨a3, t3, rfl, -, q3, g⟩ := g
  obtain ⟨x3, rfl⟩ := d_i64 q3
  obtain ⟨a4, t4, rfl, -, q4, g⟩ := g
  obtain ⟨x4, rfl, b4⟩ := d_ValueS q4
  obtain ⟨a5, t5, rfl, -, q5, g⟩ := g
  obtain ⟨x5, rfl, b5⟩ := d_ValueS q5
  obtain ⟨a6, t6, rfl, -, q6, g⟩ := g
  obtain ⟨x6, rfl, b6⟩ := d_Value q6
  cases g
  exact ⟨⟨x0, x1, x2, x3, x4, x5, x6⟩, rfl, ⟨b2, b4, b5, b6, trivial⟩⟩
theorem d_Binding {d : Nat} {ts : List T} (h : Shp Go.Proofs.Tryd.prog d 177 ts) : ∃ x : DBinding, ts = DBinding.cells x ∧ BdBinding x := by
  obtain ⟨d, g⟩ := shp_struct (by kernel_rfl) h
  rw [show (fieldsT Go.Proofs.Tryd.prog 177).map (·.type) = [9, 172] from by kernel_rfl] at g
  obtain ⟨a0, t0, rfl, -, q0, g⟩ := g
  obtain ⟨x0, rfl, b0⟩ := d_String q0
  obtain ⟨a1, t1, rfl, -, q1, g⟩ := g
  obtain ⟨x1, rfl, b1⟩ := d_Value q1
  cases g
  exact ⟨⟨x0, x1⟩, rfl, ⟨b0, b1, trivial⟩⟩
theorem d_StringS {d : Nat} {ts : List T} (h : Shp Go.Proofs.Tryd.prog d 24 ts) : ∃ x : Sl ByteArray, ts = [Sl.t x] ∧ FitS maxLen BdString x := shp_sl (kt := by kernel_rfl) (he := by kernel_rfl) (fun d ts h => d_String h) h
theorem d_Function {d : Nat} {ts : List T} (h : Shp Go.Proofs.Tryd.prog d 180 ts) : ∃ x : DFunction, ts = DFunction.cells x ∧ BdFunction x := by
  obtain ⟨d, g⟩ := shp_struct (by kernel_rfl) h
  rw [show (fieldsT Go.Proofs.Tryd.prog 180).map (·.type) = [9, 24, 24, 9] from by kernel_rfl] at g
  obtain ⟨a0, t0, rfl, -, q0, g⟩ := g
  obtain ⟨x0, rfl, b0⟩ := d_String q0
  obtain ⟨a1, t1, rfl, -, q1, g⟩ := g
  obtain ⟨x1, rfl, b1⟩ := d_StringS q1
  obtain ⟨a2, t2, rfl, -, q2, g⟩ := g
  obtain ⟨x2, rfl, b2⟩ := d_StringS q2
  obtain ⟨a3, t3, rfl, -, q3, g⟩ := g
  obtain ⟨x3, rfl, b3⟩ := d_String q3
  cases g
  exact ⟨⟨x0, x1, x2, x3⟩, rfl, ⟨b0, b1, b2, b3, trivial⟩⟩
theorem d_RecordType {d : Nat} {ts : List T} (h : Shp Go.Proofs.Tryd.prog d 183 ts) : ∃ x : DRecordType, ts = DRecordType.cells x ∧ BdRecordType x := by
  obtain ⟨d, g⟩ := shp_struct (by kernel_rfl) h
  rw [show (fieldsT Go.Proofs.Tryd.prog 183).map (·.type) = [9, 24] from by kernel_rfl] at g
  obtain ⟨a0, t0, rfl, -, q0, g⟩ := g
  obtain ⟨x0, rfl, b0⟩ := d_String q0
  obtain ⟨a1, t1, rfl, -, q1, g⟩ := g
  obtain ⟨x1, rfl, b1⟩ := d_StringS q1
  cases g
  exact ⟨⟨x0, x1⟩, rfl, ⟨b0, b1, trivial⟩⟩
theorem d_File {d : Nat} {ts : List T} (h : Shp Go.Proofs.Tryd.prog d 185 ts) : ∃ x : DFile, ts = DFile.cells x ∧ BdFile x := by
  obtain ⟨d, g⟩ := shp_struct (by kernel_rfl) h
  rw [show (fieldsT Go.Proofs.Tryd.prog 185).map (·.type) = [9, 24, 2, 2] from by kernel_rfl] at g
  obtain ⟨a0, t0, rfl, -, q0, g⟩ := g
  obtain ⟨x0, rfl, b0⟩ := d_String q0
  obtain ⟨a1, t1, rfl, -, q1, g⟩ := g
  obtain ⟨x1, rfl, b1⟩ := d_StringS q1
  obtain ⟨a2, t2, rfl, -, q2, g⟩ := g
  obtain ⟨x2, rfl⟩ := d_i64 q2
  obtain ⟨a3, t3, rfl, -, q3, g⟩ := g
  obtain ⟨x3, rfl⟩ := d_i64 q3
  cases g
  exact ⟨⟨x0, x1, x2, x3⟩, rfl, ⟨b0, b1, trivial⟩⟩
theorem d_ObjectS {d : Nat} {ts : List T} (h : Shp Go.Proofs.Tryd.prog d 48 ts) : ∃ x : Sl DObject, ts = [Sl.t x] ∧ FitS maxLen BdObject x := shp_sl (kt := by kernel_rfl) (he := by kernel_rfl) (fun d ts h => d_Object h) h
theorem d_Heap {d : Nat} {ts : List T} (h : Shp Go.Proofs.Tryd.prog d 50 ts) : ∃ x : DHeap, ts = DHeap.cells x ∧ BdHeap x := by
  obtain ⟨d, g⟩ := shp_struct (by kernel_rfl) h
  rw [show (fieldsT Go.Proofs.Tryd.prog 50).map (·.type) = [2, 48] from by kernel_rfl] at g
  obtain ⟨a0, t0, rfl, -, q0, g⟩ := g
  obtain ⟨x0, rfl⟩ := d_i64 q0
  obtain ⟨a1, t1, rfl, -, q1, g⟩ := g
  obtain ⟨x1, rfl, b1⟩ := d_ObjectS q1
  cases g
  exact ⟨⟨x0, x1⟩, rfl, ⟨b1, trivial⟩⟩
theorem d_BindingS {d : Nat} {ts : List T} (h : Shp Go.Proofs.Tryd.prog d 51 ts) : ∃ x : Sl DBinding, ts = [Sl.t x] ∧ FitS maxLen BdBinding x := shp_sl (kt := by kernel_rfl) (he := by kernel_rfl) (fun d ts h => d_Binding h) h
theorem d_FunctionS {d : Nat} {ts : List T} (h : Shp Go.Proofs.Tryd.prog d 52 ts) : ∃ x : Sl DFunction, ts = [Sl.t x] ∧ FitS maxLen BdFunction x := shp_sl (kt := by kernel_rfl) (he := by kernel_rfl) (fun d ts h => d_Function h) h
theorem d_RecordTypeS {d : Nat} {ts : List T} (h : Shp Go.Proofs.Tryd.prog d 53 ts) : ∃ x : Sl DRecordType, ts = [Sl.t x] ∧ FitS maxLen BdRecordType x := shp_sl (kt := by kernel_rfl) (he := by kernel_rfl) (fun d ts h => d_RecordType h) h
theorem d_Scope {d : Nat} {ts : List T} (h : Shp Go.Proofs.Tryd.prog d 55 ts) : ∃ x : DScope, ts = DScope.cells x ∧ BdScope x := by
  obtain ⟨d, g⟩ := shp_struct (by kernel_rfl) h
  rw [show (fieldsT Go.Proofs.Tryd.prog 55).map (·.type) = [51, 52, 53] from by kernel_rfl] at g
  obtain ⟨a0, t0, rfl, -, q0, g⟩ := g
  obtain ⟨x0, rfl, b0⟩ := d_BindingS q0
  obtain ⟨a1, t1, rfl, -, q1, g⟩ := g
  obtain ⟨x1, rfl, b1⟩ := d_FunctionS q1
  obtain ⟨a2, t2, rfl, -, q2, g⟩ := g
  obtain ⟨x2, rfl, b2⟩ := d_RecordTypeS q2
  cases g
  exact ⟨⟨x0, x1, x2⟩, rfl, ⟨b0, b1, b2, trivial⟩⟩
theorem d_FileS {d : Nat} {ts : List T} (h : Shp Go.Proofs.Tryd.prog d 56 ts) : ∃ x : Sl DFile, ts = [Sl.t x] ∧ FitS maxLen BdFile x := shp_sl (kt := by kernel_rfl) (he := by kernel_rfl) (fun d ts h => d_File h) h
theorem d_Console {d : Nat} {ts : List T} (h : Shp Go.Proofs.Tryd.prog d 58 ts) : ∃ x : DConsole, ts = DConsole.cells x ∧ BdConsole x := by
  obtain ⟨d, g⟩ := shp_struct (by kernel_rfl) h
  rw [show (fieldsT Go.Proofs.Tryd.prog 58).map (·.type) = [24, 2, 24, 56, 24] from by kernel_rfl] at g
  obtain ⟨a0, t0, rfl, -, q0, g⟩ := g
  obtain ⟨x0, rfl, b0⟩ := d_StringS q0
  obtain ⟨a1, t1, rfl, -, q1, g⟩ := g
  obtain ⟨x1, rfl⟩ := d_i64 q1
  obtain ⟨a2, t2, rfl, -, q2, g⟩ := g
  obtain ⟨x2, rfl, b2⟩ := d_StringS q2
  obtain ⟨a3, t3, rfl, -, q3, g⟩ := g
  obtain ⟨x3, rfl, b3⟩ := d_FileS q3
  obtain ⟨a4, t4, rfl, -, q4, g⟩ := g
  obtain ⟨x4, rfl, b4⟩ := d_StringS q4
  cases g
  exact ⟨⟨x0, x1, x2, x3, x4⟩, rfl, ⟨b0, b2, b3, b4, trivial⟩⟩
theorem d_Memory {d : Nat} {ts : List T} (h : Shp Go.Proofs.Tryd.prog d 60 ts) : ∃ x : DMemory, ts = DMemory.cells x ∧ BdMemory x := by
  obtain ⟨d, g⟩ := shp_struct (by kernel_rfl) h
  rw [show (fieldsT Go.Proofs.Tryd.prog 60).map (·.type) = [50, 55, 58] from by kernel_rfl] at g
  obtain ⟨a0, t0, rfl, -, q0, g⟩ := g
  obtain ⟨x0, rfl, b0⟩ := d_Heap q0
  obtain ⟨a1, t1, rfl, -, q1, g⟩ := g
  obtain ⟨x1, rfl, b1⟩ := d_Scope q1
  obtain ⟨a2, t2, rfl, -, q2, g⟩ := g
  obtain ⟨x2, rfl, b2⟩ := d_Console q2
  cases g
  exact ⟨⟨x0, x1, x2⟩, rfl, ⟨b0, b1, b2, trivial⟩⟩
end Go.Am
end
