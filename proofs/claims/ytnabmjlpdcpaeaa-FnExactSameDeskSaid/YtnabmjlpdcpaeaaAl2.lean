/- The law. -/
import Derived.Test.YtnabmjlpdcpaeaaAl1
import Derived.Test.YtnabmjlpdcpaeaaAm4
import Derived.Test.YtnabmjlpdcpaeaaAg0
section
set_option maxRecDepth 100000
set_option maxHeartbeats 1000000
set_option linter.unusedVariables false
set_option linter.unusedSimpArgs false
namespace Go.Am
open Go.Proofs
theorem ktS : kindT Go.Proofs.Try.prog 9 = 3 := by kernel_rfl
theorem ktI : kindT Go.Proofs.Try.prog 2 = 2 := by kernel_rfl
theorem un_i64 : Go.Proofs.Try.prog.underlying 2 = some (.int .i64) := by kernel_rfl
theorem d_i64 {d : Nat} {ts : List T} (h : Shp Go.Proofs.Try.prog d 2 ts) : ∃ n : Int, ts = [.int .i64 n] := shp_int un_i64 ktI h
theorem d_String {d : Nat} {ts : List T} (h : Shp Go.Proofs.Try.prog d 9 ts) : ∃ x : ByteArray, ts = Enc.cells x ∧ BdString x := by
  obtain ⟨s, rfl, g⟩ := shp_str ktS h
  exact ⟨s, rfl, g⟩
theorem d_Value {d : Nat} {ts : List T} (h : Shp Go.Proofs.Try.prog d 126 ts) : ∃ x : DValue, ts = DValue.cells x ∧ BdValue x := by
  obtain ⟨d, g⟩ := shp_struct (by kernel_rfl) h
  rw [show (fieldsT Go.Proofs.Try.prog 126).map (·.type) = [2, 2, 9, 2] from by kernel_rfl] at g
  obtain ⟨a0, t0, rfl, -, q0, g⟩ := g
  obtain ⟨x0, rfl⟩ := d_i64 q0
  obtain ⟨a1, t1, rfl, -, q1, g⟩ := g
  obtain ⟨x1, rfl⟩ := d_i64 q1
  obtain ⟨a2, t2, rfl, -, q2, g⟩ := g
  obtain ⟨x2, rfl, b2⟩ := d_String q2
  obtain ⟨a3, t3, rfl, -, q3, g⟩ := g
  obtain ⟨x3, rfl⟩ := d_i64 q3
  cases g
  exact ⟨⟨x0, x1, x2, x3⟩, rfl, ⟨b2, trivial⟩⟩
theorem d_ValueS {d : Nat} {ts : List T} (h : Shp Go.Proofs.Try.prog d 125 ts) : ∃ x : Sl DValue, ts = [Sl.t x] ∧ FitS maxLen BdValue x := shp_sl (kt := by kernel_rfl) (he := by kernel_rfl) (fun d ts h => d_Value h) h
theorem d_Object {d : Nat} {ts : List T} (h : Shp Go.Proofs.Try.prog d 128 ts) : ∃ x : DObject, ts = DObject.cells x ∧ BdObject x := by
  obtain ⟨d, g⟩ := shp_struct (by kernel_rfl) h
  rw [show (fieldsT Go.Proofs.Try.prog 128).map (·.type) = [2, 2, 9, 2, 125, 125, 126] from by kernel_rfl] at g
  obtain ⟨a0, t0, rfl, -, q0, g⟩ := g
  obtain ⟨x0, rfl⟩ := d_i64 q0
  obtain ⟨a1, t1, rfl, -, q1, g⟩ := g
  obtain ⟨x1, rfl⟩ := d_i64 q1
  obtain ⟨a2, t2, rfl, -, q2, g⟩ := g
  obtain ⟨x2, rfl, b2⟩ := d_String q2
  obtain ⟨a3, t3, rfl, -, q3, g⟩ := g
  obtain ⟨x3, rfl⟩ := d_i64 q3
  obtain ⟨a4, t4, rfl, -, q4, g⟩ := g
  obtain ⟨x4, rfl, b4⟩ := d_ValueS q4
  obtain ⟨a5, t5, rfl, -, q5, g⟩ := g
  obtain ⟨x5, rfl, b5⟩ := d_ValueS q5
  obtain ⟨a6, t6, rfl, -, q6, g⟩ := g
  obtain ⟨x6, rfl, b6⟩ := d_Value q6
  cases g
  exact ⟨⟨x0, x1, x2, x3, x4, x5, x6⟩, rfl, ⟨b2, b4, b5, b6, trivial⟩⟩
theorem d_Binding {d : Nat} {ts : List T} (h : Shp Go.Proofs.Try.prog d 131 ts) : ∃ x : DBinding, ts = DBinding.cells x ∧ BdBinding x := by
  obtain ⟨d, g⟩ := shp_struct (by kernel_rfl) h
  rw [show (fieldsT Go.Proofs.Try.prog 131).map (·.type) = [9, 126] from by kernel_rfl] at g
  obtain ⟨a0, t0, rfl, -, q0, g⟩ := g
  obtain ⟨x0, rfl, b0⟩ := d_String q0
  obtain ⟨a1, t1, rfl, -, q1, g⟩ := g
  obtain ⟨x1, rfl, b1⟩ := d_Value q1
  cases g
  exact ⟨⟨x0, x1⟩, rfl, ⟨b0, b1, trivial⟩⟩
theorem d_StringS {d : Nat} {ts : List T} (h : Shp Go.Proofs.Try.prog d 22 ts) : ∃ x : Sl ByteArray, ts = [Sl.t x] ∧ FitS maxLen BdString x := shp_sl (kt := by kernel_rfl) (he := by kernel_rfl) (fun d ts h => d_String h) h
theorem d_Function {d : Nat} {ts : List T} (h : Shp Go.Proofs.Try.prog d 133 ts) : ∃ x : DFunction, ts = DFunction.cells x ∧ BdFunction x := by
  obtain ⟨d, g⟩ := shp_struct (by kernel_rfl) h
  rw [show (fieldsT Go.Proofs.Try.prog 133).map (·.type) = [9, 22, 22, 9] from by kernel_rfl] at g
  obtain ⟨a0, t0, rfl, -, q0, g⟩ := g
  obtain ⟨x0, rfl, b0⟩ := d_String q0
  obtain ⟨a1, t1, rfl, -, q1, g⟩ := g
  obtain ⟨x1, rfl, b1⟩ := d_StringS q1
  obtain ⟨a2, t2, rfl, -, q2, g⟩ := g
  obtain ⟨x2, rfl, b2⟩ := d_StringS q2
  obtain ⟨a3, t3, rfl, -, q3, g⟩ := g
  obtain ⟨x3, rfl, b3⟩ := d_String q3
  cases g
  exact ⟨⟨x0, x1, x2, x3⟩, rfl, ⟨b0, b1, b2, b3, trivial⟩⟩
theorem d_RecordType {d : Nat} {ts : List T} (h : Shp Go.Proofs.Try.prog d 135 ts) : ∃ x : DRecordType, ts = DRecordType.cells x ∧ BdRecordType x := by
  obtain ⟨d, g⟩ := shp_struct (by kernel_rfl) h
  rw [show (fieldsT Go.Proofs.Try.prog 135).map (·.type) = [9, 22] from by kernel_rfl] at g
  obtain ⟨a0, t0, rfl, -, q0, g⟩ := g
  obtain ⟨x0, rfl, b0⟩ := d_String q0
  obtain ⟨a1, t1, rfl, -, q1, g⟩ := g
  obtain ⟨x1, rfl, b1⟩ := d_StringS q1
  cases g
  exact ⟨⟨x0, x1⟩, rfl, ⟨b0, b1, trivial⟩⟩
theorem d_File {d : Nat} {ts : List T} (h : Shp Go.Proofs.Try.prog d 137 ts) : ∃ x : DFile, ts = DFile.cells x ∧ BdFile x := by
  obtain ⟨d, g⟩ := shp_struct (by kernel_rfl) h
  rw [show (fieldsT Go.Proofs.Try.prog 137).map (·.type) = [9, 22, 2, 2] from by kernel_rfl] at g
  obtain ⟨a0, t0, rfl, -, q0, g⟩ := g
  obtain ⟨x0, rfl, b0⟩ := d_String q0
  obtain ⟨a1, t1, rfl, -, q1, g⟩ := g
  obtain ⟨x1, rfl, b1⟩ := d_StringS q1
  obtain ⟨a2, t2, rfl, -, q2, g⟩ := g
  obtain ⟨x2, rfl⟩ := d_i64 q2
  obtain ⟨a3, t3, rfl, -, q3, g⟩ := g
  obtain ⟨x3, rfl⟩ := d_i64 q3
  cases g
  exact ⟨⟨x0, x1, x2, x3⟩, rfl, ⟨b0, b1, trivial⟩⟩
theorem d_ObjectS {d : Nat} {ts : List T} (h : Shp Go.Proofs.Try.prog d 42 ts) : ∃ x : Sl DObject, ts = [Sl.t x] ∧ FitS maxLen BdObject x := shp_sl (kt := by kernel_rfl) (he := by kernel_rfl) (fun d ts h => d_Object h) h
theorem d_Heap {d : Nat} {ts : List T} (h : Shp Go.Proofs.Try.prog d 44 ts) : ∃ x : DHeap, ts = DHeap.cells x ∧ BdHeap x := by
  obtain ⟨d, g⟩ := shp_struct (by kernel_rfl) h
  rw [show (fieldsT Go.Proofs.Try.prog 44).map (·.type) = [2, 42] from by kernel_rfl] at g
  obtain ⟨a0, t0, rfl, -, q0, g⟩ := g
  obtain ⟨x0, rfl⟩ := d_i64 q0
  obtain ⟨a1, t1, rfl, -, q1, g⟩ := g
  obtain ⟨x1, rfl, b1⟩ := d_ObjectS q1
  cases g
  exact ⟨⟨x0, x1⟩, rfl, ⟨b1, trivial⟩⟩
theorem d_BindingS {d : Nat} {ts : List T} (h : Shp Go.Proofs.Try.prog d 45 ts) : ∃ x : Sl DBinding, ts = [Sl.t x] ∧ FitS maxLen BdBinding x := shp_sl (kt := by kernel_rfl) (he := by kernel_rfl) (fun d ts h => d_Binding h) h
theorem d_FunctionS {d : Nat} {ts : List T} (h : Shp Go.Proofs.Try.prog d 46 ts) : ∃ x : Sl DFunction, ts = [Sl.t x] ∧ FitS maxLen BdFunction x := shp_sl (kt := by kernel_rfl) (he := by kernel_rfl) (fun d ts h => d_Function h) h
theorem d_RecordTypeS {d : Nat} {ts : List T} (h : Shp Go.Proofs.Try.prog d 47 ts) : ∃ x : Sl DRecordType, ts = [Sl.t x] ∧ FitS maxLen BdRecordType x := shp_sl (kt := by kernel_rfl) (he := by kernel_rfl) (fun d ts h => d_RecordType h) h
theorem d_Scope {d : Nat} {ts : List T} (h : Shp Go.Proofs.Try.prog d 49 ts) : ∃ x : DScope, ts = DScope.cells x ∧ BdScope x := by
  obtain ⟨d, g⟩ := shp_struct (by kernel_rfl) h
  rw [show (fieldsT Go.Proofs.Try.prog 49).map (·.type) = [45, 46, 47] from by kernel_rfl] at g
  obtain ⟨a0, t0, rfl, -, q0, g⟩ := g
  obtain ⟨x0, rfl, b0⟩ := d_BindingS q0
  obtain ⟨a1, t1, rfl, -, q1, g⟩ := g
  obtain ⟨x1, rfl, b1⟩ := d_FunctionS q1
  obtain ⟨a2, t2, rfl, -, q2, g⟩ := g
  obtain ⟨x2, rfl, b2⟩ := d_RecordTypeS q2
  cases g
  exact ⟨⟨x0, x1, x2⟩, rfl, ⟨b0, b1, b2, trivial⟩⟩
theorem d_FileS {d : Nat} {ts : List T} (h : Shp Go.Proofs.Try.prog d 50 ts) : ∃ x : Sl DFile, ts = [Sl.t x] ∧ FitS maxLen BdFile x := shp_sl (kt := by kernel_rfl) (he := by kernel_rfl) (fun d ts h => d_File h) h
theorem d_Console {d : Nat} {ts : List T} (h : Shp Go.Proofs.Try.prog d 52 ts) : ∃ x : DConsole, ts = DConsole.cells x ∧ BdConsole x := by
  obtain ⟨d, g⟩ := shp_struct (by kernel_rfl) h
  rw [show (fieldsT Go.Proofs.Try.prog 52).map (·.type) = [22, 2, 22, 50, 22] from by kernel_rfl] at g
  obtain ⟨a0, t0, rfl, -, q0, g⟩ := g
  obtain ⟨x0, rfl, b0⟩ := d_StringS q0
  obtain ⟨a1, t1, rfl, -, q1, g⟩ := g
  obtain ⟨x1, rfl⟩ := d_i64 q1
  obtain ⟨a2, t2, rfl, -, q2, g⟩ := g
  obtain ⟨x2, rfl, b2⟩ := d_StringS q2
  obtain ⟨a3, t3, rfl, -, q3, g⟩ := g
  obtain ⟨x3, rfl, b3⟩ := d_FileS q3
  obtain ⟨a4, t4, rfl, -, q4, g⟩ := g
  obtain ⟨x4, rfl, b4⟩ := d_StringS q4
  cases g
  exact ⟨⟨x0, x1, x2, x3, x4⟩, rfl, ⟨b0, b2, b3, b4, trivial⟩⟩
theorem d_Memory {d : Nat} {ts : List T} (h : Shp Go.Proofs.Try.prog d 54 ts) : ∃ x : DMemory, ts = DMemory.cells x ∧ BdMemory x := by
  obtain ⟨d, g⟩ := shp_struct (by kernel_rfl) h
  rw [show (fieldsT Go.Proofs.Try.prog 54).map (·.type) = [44, 49, 52] from by kernel_rfl] at g
  obtain ⟨a0, t0, rfl, -, q0, g⟩ := g
  obtain ⟨x0, rfl, b0⟩ := d_Heap q0
  obtain ⟨a1, t1, rfl, -, q1, g⟩ := g
  obtain ⟨x1, rfl, b1⟩ := d_Scope q1
  obtain ⟨a2, t2, rfl, -, q2, g⟩ := g
  obtain ⟨x2, rfl, b2⟩ := d_Console q2
  cases g
  exact ⟨⟨x0, x1, x2⟩, rfl, ⟨b0, b1, b2, trivial⟩⟩
theorem d_Desk {d : Nat} {ts : List T} (h : Shp Go.Proofs.Try.prog d 56 ts) : ∃ x : DDesk, ts = DDesk.cells x ∧ BdDesk x := by
  obtain ⟨d, g⟩ := shp_struct (by kernel_rfl) h
  rw [show (fieldsT Go.Proofs.Try.prog 56).map (·.type) = [22, 22, 54, 2, 2, 9, 2] from by kernel_rfl] at g
  obtain ⟨a0, t0, rfl, -, q0, g⟩ := g
  obtain ⟨x0, rfl, b0⟩ := d_StringS q0
  obtain ⟨a1, t1, rfl, -, q1, g⟩ := g
  obtain ⟨x1, rfl, b1⟩ := d_StringS q1
  obtain ⟨a2, t2, rfl, -, q2, g⟩ := g
  obtain ⟨x2, rfl, b2⟩ := d_Memory q2
  obtain ⟨a3, t3, rfl, -, q3, g⟩ := g
  obtain ⟨x3, rfl⟩ := d_i64 q3
  obtain ⟨a4, t4, rfl, -, q4, g⟩ := g
  obtain ⟨x4, rfl⟩ := d_i64 q4
  obtain ⟨a5, t5, rfl, -, q5, g⟩ := g
  obtain ⟨x5, rfl, b5⟩ := d_String q5
  obtain ⟨a6, t6, rfl, -, q6, g⟩ := g
  obtain ⟨x6, rfl⟩ := d_i64 q6
  cases g
  exact ⟨⟨x0, x1, x2, x3, x4, x5, x6⟩, rfl, ⟨b0, b1, b2, b5, trivial⟩⟩
theorem sameDesk_true {a b : DDesk} (ha : BdDesk a) (hb : BdDesk b) : F_laws_FnExactSameDesk a b = some true := by
  refine u_laws_FnExactSameDesk a b true ?_
  unfold B_laws_FnExactSameDesk
  rcases sz_Desk ha (by omega) (Int.le_refl 1048576) with h | ⟨l1, h, z1, w1, fa⟩
  · rw [h]; rfl
  rcases sz_Desk hb z1 (by omega) with h' | ⟨l2, h', z2, w2, fb⟩
  · rw [h]
    show (if decide (l1 < 0) = true then some true else _) = _
    rw [if_neg (by simp; omega), h']; rfl
  obtain ⟨x, hx, fx⟩ := to_Desk fa
  obtain ⟨y, hy, fy⟩ := to_Desk fb
  have e1 := q_spec_SameDesk fx fy
  have e2 := q_impl_SameDesk fx fy
  have e3 := q_laws_eqDesk fx fx
  have e4 := q_laws_eqDesk fy fy
  rw [tell_t (EqDesk.refl x)] at e3
  rw [tell_t (EqDesk.refl y)] at e4
  rw [tell] at e1 e2
  rw [h]
  show (if decide (l1 < 0) = true then some true else _) = _
  rw [if_neg (by simp; omega), h']
  show (if decide (l2 < 0) = true then some true else _) = _
  rw [if_neg (by simp; omega)]
  simp only [hx, hy, Option.bind_some, e1, e2, e3, e4]
  simp
theorem law_FnExactSameDesk {fu0 fu1 : Nat} {t0 t1 : List T} (h0 : Shp Go.Proofs.Try.prog fu0 56 t0) (h1 : Shp Go.Proofs.Try.prog fu1 56 t1) : ∃ σ', run Go.Proofs.Try.prog md ext 4 [.agg t0, .agg t1] St.empty = some (.bool true, σ') := by
  obtain ⟨a, rfl, ha⟩ := d_Desk h0
  obtain ⟨b, rfl, hb⟩ := d_Desk h1
  exact ⟨_, semV_spec (sameDesk_true ha hb) St.empty⟩
end Go.Am
end
