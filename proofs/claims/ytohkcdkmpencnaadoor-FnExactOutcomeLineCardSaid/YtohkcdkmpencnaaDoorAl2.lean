/- The law. -/
import Derived.Test.YtohkcdkmpencnaaDoorAg0
import Derived.Test.YtohkcdkmpencnaaDoorAg1
import Derived.Test.YtohkcdkmpencnaaDoorAm4
section
set_option maxHeartbeats 1000000
set_option linter.unusedVariables false
set_option linter.unusedSimpArgs false
namespace Go.Am
def FitString (n : Nat) (x : ByteArray) : Prop := True
def BdString (x : ByteArray) : Prop := x.size ≤ maxLen
def EqString (x y : ByteArray) : Prop := x = y
def FitValue (n : Nat) (x : DValue) : Prop := True
def BdValue (x : DValue) : Prop := x.Text.size ≤ maxLen ∧ True
def EqValue (x y : DValue) : Prop := x.Kind = y.Kind ∧ x.Num = y.Num ∧ x.Text = y.Text ∧ x.Ref = y.Ref
theorem EqValue.refl (x : DValue) : EqValue x x := by
  exact ⟨rfl, rfl, rfl, rfl⟩
def FitObject (n : Nat) (x : DObject) : Prop := FitS n (FitValue n) x.Keys ∧ FitS n (FitValue n) x.Vals ∧ FitValue n x.Default ∧ True
def BdObject (x : DObject) : Prop := x.Name.size ≤ maxLen ∧ FitS maxLen BdValue x.Keys ∧ FitS maxLen BdValue x.Vals ∧ BdValue x.Default ∧ True
def EqObject (x y : DObject) : Prop := x.Id = y.Id ∧ x.Kind = y.Kind ∧ x.Name = y.Name ∧ x.Low = y.Low ∧ A2 EqValue x.Keys.l y.Keys.l ∧ A2 EqValue x.Vals.l y.Vals.l ∧ EqValue x.Default y.Default
theorem EqObject.refl (x : DObject) : EqObject x x := by
  exact ⟨rfl, rfl, rfl, rfl, A2.refl (fun _ _ => EqValue.refl _), A2.refl (fun _ _ => EqValue.refl _), EqValue.refl _⟩
def FitBinding (n : Nat) (x : DBinding) : Prop := FitValue n x.Value ∧ True
def BdBinding (x : DBinding) : Prop := x.Name.size ≤ maxLen ∧ BdValue x.Value ∧ True
def EqBinding (x y : DBinding) : Prop := x.Name = y.Name ∧ EqValue x.Value y.Value
theorem EqBinding.refl (x : DBinding) : EqBinding x x := by
  exact ⟨rfl, EqValue.refl _⟩
def FitFunction (n : Nat) (x : DFunction) : Prop := FitS n (FitString n) x.Params ∧ FitS n (FitString n) x.Locals ∧ True
def BdFunction (x : DFunction) : Prop := x.Name.size ≤ maxLen ∧ FitS maxLen BdString x.Params ∧ FitS maxLen BdString x.Locals ∧ x.Label.size ≤ maxLen ∧ True
def EqFunction (x y : DFunction) : Prop := x.Name = y.Name ∧ A2 EqString x.Params.l y.Params.l ∧ A2 EqString x.Locals.l y.Locals.l ∧ x.Label = y.Label
theorem EqFunction.refl (x : DFunction) : EqFunction x x := by
  exact ⟨rfl, A2.refl (fun _ _ => rfl), A2.refl (fun _ _ => rfl), rfl⟩
def FitRecordType (n : Nat) (x : DRecordType) : Prop := FitS n (FitString n) x.Fields ∧ True
def BdRecordType (x : DRecordType) : Prop := x.Name.size ≤ maxLen ∧ FitS maxLen BdString x.Fields ∧ True
def EqRecordType (x y : DRecordType) : Prop := x.Name = y.Name ∧ A2 EqString x.Fields.l y.Fields.l
theorem EqRecordType.refl (x : DRecordType) : EqRecordType x x := by
  exact ⟨rfl, A2.refl (fun _ _ => rfl)⟩
def FitFile (n : Nat) (x : DFile) : Prop := FitS n (FitString n) x.Lines ∧ True
def BdFile (x : DFile) : Prop := x.Name.size ≤ maxLen ∧ FitS maxLen BdString x.Lines ∧ True
def EqFile (x y : DFile) : Prop := x.Name = y.Name ∧ A2 EqString x.Lines.l y.Lines.l ∧ x.Mode = y.Mode ∧ x.At = y.At
theorem EqFile.refl (x : DFile) : EqFile x x := by
  exact ⟨rfl, A2.refl (fun _ _ => rfl), rfl, rfl⟩
def FitHeap (n : Nat) (x : DHeap) : Prop := FitS n (FitObject n) x.Objects ∧ True
def BdHeap (x : DHeap) : Prop := FitS maxLen BdObject x.Objects ∧ True
def EqHeap (x y : DHeap) : Prop := x.Next = y.Next ∧ A2 EqObject x.Objects.l y.Objects.l
theorem EqHeap.refl (x : DHeap) : EqHeap x x := by
  exact ⟨rfl, A2.refl (fun _ _ => EqObject.refl _)⟩
def FitScope (n : Nat) (x : DScope) : Prop := FitS n (FitBinding n) x.Vars ∧ FitS n (FitFunction n) x.Functions ∧ FitS n (FitRecordType n) x.Types ∧ True
def BdScope (x : DScope) : Prop := FitS maxLen BdBinding x.Vars ∧ FitS maxLen BdFunction x.Functions ∧ FitS maxLen BdRecordType x.Types ∧ True
def EqScope (x y : DScope) : Prop := A2 EqBinding x.Vars.l y.Vars.l ∧ A2 EqFunction x.Functions.l y.Functions.l ∧ A2 EqRecordType x.Types.l y.Types.l
theorem EqScope.refl (x : DScope) : EqScope x x := by
  exact ⟨A2.refl (fun _ _ => EqBinding.refl _), A2.refl (fun _ _ => EqFunction.refl _), A2.refl (fun _ _ => EqRecordType.refl _)⟩
def FitConsole (n : Nat) (x : DConsole) : Prop := FitS n (FitString n) x.Input ∧ FitS n (FitString n) x.Output ∧ FitS n (FitFile n) x.Files ∧ FitS n (FitString n) x.Trace ∧ True
def BdConsole (x : DConsole) : Prop := FitS maxLen BdString x.Input ∧ FitS maxLen BdString x.Output ∧ FitS maxLen BdFile x.Files ∧ FitS maxLen BdString x.Trace ∧ True
def EqConsole (x y : DConsole) : Prop := A2 EqString x.Input.l y.Input.l ∧ x.At = y.At ∧ A2 EqString x.Output.l y.Output.l ∧ A2 EqFile x.Files.l y.Files.l ∧ A2 EqString x.Trace.l y.Trace.l
theorem EqConsole.refl (x : DConsole) : EqConsole x x := by
  exact ⟨A2.refl (fun _ _ => rfl), rfl, A2.refl (fun _ _ => rfl), A2.refl (fun _ _ => EqFile.refl _), A2.refl (fun _ _ => rfl)⟩
def FitMemory (n : Nat) (x : DMemory) : Prop := FitHeap n x.Heap ∧ FitScope n x.Scope ∧ FitConsole n x.Console ∧ True
def BdMemory (x : DMemory) : Prop := BdHeap x.Heap ∧ BdScope x.Scope ∧ BdConsole x.Console ∧ True
def EqMemory (x y : DMemory) : Prop := EqHeap x.Heap y.Heap ∧ EqScope x.Scope y.Scope ∧ EqConsole x.Console y.Console
theorem EqMemory.refl (x : DMemory) : EqMemory x x := by
  exact ⟨EqHeap.refl _, EqScope.refl _, EqConsole.refl _⟩
theorem mL : maxLen = 9223372036854775807 := by decide
theorem sz_StringS {a : Sl ByteArray} {l : Int} (hb : FitS maxLen BdString a) (h0 : 0 ≤ l) (h1 : l ≤ 1048576) : SzOk (F_laws_szStringS a l) l (FitS 1048576 (FitString 1048576) a) := by
  refine sz_u (u_laws_szStringS a l) ?_
  unfold B_laws_szStringS
  have hl := hb.1
  rw [mL] at hl
  refine slice_sz h0 h1 hb.1 (fun i x l' hm hi hx q0 q1 => ?_) (fun l' => by simp)
  have hs := hb.2 x hm
  unfold BdString at hs
  rw [mL] at hs
  show (if decide ((i : Int) < (a.l.length : Int)) = true then _ else _) = _ ∨ ∃ l'', (if decide ((i : Int) < (a.l.length : Int)) = true then _ else _) = _ ∧ _
  rw [if_pos (by simpa using hi), hx, wrap_id (n := (i : Int) + 1) (by omega) (by omega)]
  simp only [Option.bind_some]
  rw [wrap_id (by omega) (by omega)]
  by_cases hn : l' - (x.size : Int) < 0
  · left; rw [if_pos (by simpa using hn)]
  · right; exact ⟨l' - (x.size : Int), by rw [if_neg (by simpa using hn)], by omega, by omega, trivial⟩
theorem sz_Value {a : DValue} {l : Int} (hb : BdValue a) (h0 : 0 ≤ l) (h1 : l ≤ 1048576) : SzOk (F_laws_szValue a l) l (FitValue 1048576 a) := by
  refine sz_u (u_laws_szValue a l) ?_
  unfold B_laws_szValue
  obtain ⟨b0, _⟩ := hb
  rw [mL] at b0
  rw [wrap_id (n := l - (a.Text.size : Int)) (by omega) (by omega)]
  refine sz_if (by omega) (fun z0 => ?_)
  exact sz_end (by omega) trivial
theorem sz_ValueS {a : Sl DValue} {l : Int} (hb : FitS maxLen BdValue a) (h0 : 0 ≤ l) (h1 : l ≤ 1048576) : SzOk (F_laws_szValueS a l) l (FitS 1048576 (FitValue 1048576) a) := by
  refine sz_u (u_laws_szValueS a l) ?_
  unfold B_laws_szValueS
  have hl := hb.1
  rw [mL] at hl
  refine slice_sz h0 h1 hb.1 (fun i x l' hm hi hx q0 q1 => ?_) (fun l' => by simp)
  exact sz_step (G := fun y => F_laws_szValue y l') (by omega) hx (sz_Value (hb.2 x hm) q0 (by omega)) (by omega)
theorem sz_Object {a : DObject} {l : Int} (hb : BdObject a) (h0 : 0 ≤ l) (h1 : l ≤ 1048576) : SzOk (F_laws_szObject a l) l (FitObject 1048576 a) := by
  refine sz_u (u_laws_szObject a l) ?_
  unfold B_laws_szObject
  obtain ⟨b0, b1, b2, b3, _⟩ := hb
  rw [mL] at b0
  rw [wrap_id (n := l - (a.Name.size : Int)) (by omega) (by omega)]
  refine sz_if (by omega) (fun z0 => ?_)
  refine sz_bind (sz_ValueS b1 (by omega) (by omega)) (fun m1 z1 w1 f1 => ?_)
  refine sz_bind (sz_ValueS b2 (by omega) (by omega)) (fun m2 z2 w2 f2 => ?_)
  refine sz_bind (sz_Value b3 (by omega) (by omega)) (fun m3 z3 w3 f3 => ?_)
  exact sz_end (by omega) ⟨f1, f2, f3, trivial⟩
theorem sz_ObjectS {a : Sl DObject} {l : Int} (hb : FitS maxLen BdObject a) (h0 : 0 ≤ l) (h1 : l ≤ 1048576) : SzOk (F_laws_szObjectS a l) l (FitS 1048576 (FitObject 1048576) a) := by
  refine sz_u (u_laws_szObjectS a l) ?_
  unfold B_laws_szObjectS
  have hl := hb.1
  rw [mL] at hl
  refine slice_sz h0 h1 hb.1 (fun i x l' hm hi hx q0 q1 => ?_) (fun l' => by simp)
  exact sz_step (G := fun y => F_laws_szObject y l') (by omega) hx (sz_Object (hb.2 x hm) q0 (by omega)) (by omega)
theorem sz_Binding {a : DBinding} {l : Int} (hb : BdBinding a) (h0 : 0 ≤ l) (h1 : l ≤ 1048576) : SzOk (F_laws_szBinding a l) l (FitBinding 1048576 a) := by
  refine sz_u (u_laws_szBinding a l) ?_
  unfold B_laws_szBinding
  obtain ⟨b0, b1, _⟩ := hb
  rw [mL] at b0
  rw [wrap_id (n := l - (a.Name.size : Int)) (by omega) (by omega)]
  refine sz_if (by omega) (fun z0 => ?_)
  refine sz_bind (sz_Value b1 (by omega) (by omega)) (fun m1 z1 w1 f1 => ?_)
  exact sz_end (by omega) ⟨f1, trivial⟩
theorem sz_BindingS {a : Sl DBinding} {l : Int} (hb : FitS maxLen BdBinding a) (h0 : 0 ≤ l) (h1 : l ≤ 1048576) : SzOk (F_laws_szBindingS a l) l (FitS 1048576 (FitBinding 1048576) a) := by
  refine sz_u (u_laws_szBindingS a l) ?_
  unfold B_laws_szBindingS
  have hl := hb.1
  rw [mL] at hl
  refine slice_sz h0 h1 hb.1 (fun i x l' hm hi hx q0 q1 => ?_) (fun l' => by simp)
  exact sz_step (G := fun y => F_laws_szBinding y l') (by omega) hx (sz_Binding (hb.2 x hm) q0 (by omega)) (by omega)
theorem sz_Function {a : DFunction} {l : Int} (hb : BdFunction a) (h0 : 0 ≤ l) (h1 : l ≤ 1048576) : SzOk (F_laws_szFunction a l) l (FitFunction 1048576 a) := by
  refine sz_u (u_laws_szFunction a l) ?_
  unfold B_laws_szFunction
  obtain ⟨b0, b1, b2, b3, _⟩ := hb
  rw [mL] at b0
  rw [wrap_id (n := l - (a.Name.size : Int)) (by omega) (by omega)]
  refine sz_if (by omega) (fun z0 => ?_)
  refine sz_bind (sz_StringS b1 (by omega) (by omega)) (fun m1 z1 w1 f1 => ?_)
  refine sz_bind (sz_StringS b2 (by omega) (by omega)) (fun m2 z2 w2 f2 => ?_)
  rw [mL] at b3
  rw [wrap_id (n := m2 - (a.Label.size : Int)) (by omega) (by omega)]
  refine sz_if (by omega) (fun z3 => ?_)
  exact sz_end (by omega) ⟨f1, f2, trivial⟩
theorem sz_FunctionS {a : Sl DFunction} {l : Int} (hb : FitS maxLen BdFunction a) (h0 : 0 ≤ l) (h1 : l ≤ 1048576) : SzOk (F_laws_szFunctionS a l) l (FitS 1048576 (FitFunction 1048576) a) := by
  refine sz_u (u_laws_szFunctionS a l) ?_
  unfold B_laws_szFunctionS
  have hl := hb.1
  rw [mL] at hl
  refine slice_sz h0 h1 hb.1 (fun i x l' hm hi hx q0 q1 => ?_) (fun l' => by simp)
  exact sz_step (G := fun y => F_laws_szFunction y l') (by omega) hx (sz_Function (hb.2 x hm) q0 (by omega)) (by omega)
theorem sz_RecordType {a : DRecordType} {l : Int} (hb : BdRecordType a) (h0 : 0 ≤ l) (h1 : l ≤ 1048576) : SzOk (F_laws_szRecordType a l) l (FitRecordType 1048576 a) := by
  refine sz_u (u_laws_szRecordType a l) ?_
  unfold B_laws_szRecordType
  obtain ⟨b0, b1, _⟩ := hb
  rw [mL] at b0
  rw [wrap_id (n := l - (a.Name.size : Int)) (by omega) (by omega)]
  refine sz_if (by omega) (fun z0 => ?_)
  refine sz_bind (sz_StringS b1 (by omega) (by omega)) (fun m1 z1 w1 f1 => ?_)
  exact sz_end (by omega) ⟨f1, trivial⟩
theorem sz_RecordTypeS {a : Sl DRecordType} {l : Int} (hb : FitS maxLen BdRecordType a) (h0 : 0 ≤ l) (h1 : l ≤ 1048576) : SzOk (F_laws_szRecordTypeS a l) l (FitS 1048576 (FitRecordType 1048576) a) := by
  refine sz_u (u_laws_szRecordTypeS a l) ?_
  unfold B_laws_szRecordTypeS
  have hl := hb.1
  rw [mL] at hl
  refine slice_sz h0 h1 hb.1 (fun i x l' hm hi hx q0 q1 => ?_) (fun l' => by simp)
  exact sz_step (G := fun y => F_laws_szRecordType y l') (by omega) hx (sz_RecordType (hb.2 x hm) q0 (by omega)) (by omega)
theorem sz_File {a : DFile} {l : Int} (hb : BdFile a) (h0 : 0 ≤ l) (h1 : l ≤ 1048576) : SzOk (F_laws_szFile a l) l (FitFile 1048576 a) := by
  refine sz_u (u_laws_szFile a l) ?_
  unfold B_laws_szFile
  obtain ⟨b0, b1, _⟩ := hb
  rw [mL] at b0
  rw [wrap_id (n := l - (a.Name.size : Int)) (by omega) (by omega)]
  refine sz_if (by omega) (fun z0 => ?_)
  refine sz_bind (sz_StringS b1 (by omega) (by omega)) (fun m1 z1 w1 f1 => ?_)
  exact sz_end (by omega) ⟨f1, trivial⟩
theorem sz_FileS {a : Sl DFile} {l : Int} (hb : FitS maxLen BdFile a) (h0 : 0 ≤ l) (h1 : l ≤ 1048576) : SzOk (F_laws_szFileS a l) l (FitS 1048576 (FitFile 1048576) a) := by
  refine sz_u (u_laws_szFileS a l) ?_
  unfold B_laws_szFileS
  have hl := hb.1
  rw [mL] at hl
  refine slice_sz h0 h1 hb.1 (fun i x l' hm hi hx q0 q1 => ?_) (fun l' => by simp)
  exact sz_step (G := fun y => F_laws_szFile y l') (by omega) hx (sz_File (hb.2 x hm) q0 (by omega)) (by omega)
theorem sz_Heap {a : DHeap} {l : Int} (hb : BdHeap a) (h0 : 0 ≤ l) (h1 : l ≤ 1048576) : SzOk (F_laws_szHeap a l) l (FitHeap 1048576 a) := by
  refine sz_u (u_laws_szHeap a l) ?_
  unfold B_laws_szHeap
  obtain ⟨b0, _⟩ := hb
  refine sz_bind (sz_ObjectS b0 (by omega) (by omega)) (fun m0 z0 w0 f0 => ?_)
  exact sz_end (by omega) ⟨f0, trivial⟩
theorem sz_Scope {a : DScope} {l : Int} (hb : BdScope a) (h0 : 0 ≤ l) (h1 : l ≤ 1048576) : SzOk (F_laws_szScope a l) l (FitScope 1048576 a) := by
  refine sz_u (u_laws_szScope a l) ?_
  unfold B_laws_szScope
  obtain ⟨b0, b1, b2, _⟩ := hb
  refine sz_bind (sz_BindingS b0 (by omega) (by omega)) (fun m0 z0 w0 f0 => ?_)
  refine sz_bind (sz_FunctionS b1 (by omega) (by omega)) (fun m1 z1 w1 f1 => ?_)
  refine sz_bind (sz_RecordTypeS b2 (by omega) (by omega)) (fun m2 z2 w2 f2 => ?_)
  exact sz_end (by omega) ⟨f0, f1, f2, trivial⟩
theorem sz_Console {a : DConsole} {l : Int} (hb : BdConsole a) (h0 : 0 ≤ l) (h1 : l ≤ 1048576) : SzOk (F_laws_szConsole a l) l (FitConsole 1048576 a) := by
  refine sz_u (u_laws_szConsole a l) ?_
  unfold B_laws_szConsole
  obtain ⟨b0, b1, b2, b3, _⟩ := hb
  refine sz_bind (sz_StringS b0 (by omega) (by omega)) (fun m0 z0 w0 f0 => ?_)
  refine sz_bind (sz_StringS b1 (by omega) (by omega)) (fun m1 z1 w1 f1 => ?_)
  refine sz_bind (sz_FileS b2 (by omega) (by omega)) (fun m2 z2 w2 f2 => ?_)
  refine sz_bind (sz_StringS b3 (by omega) (by omega)) (fun m3 z3 w3 f3 => ?_)
  exact sz_end (by omega) ⟨f0, f1, f2, f3, trivial⟩
theorem sz_Memory {a : DMemory} {l : Int} (hb : BdMemory a) (h0 : 0 ≤ l) (h1 : l ≤ 1048576) : SzOk (F_laws_szMemory a l) l (FitMemory 1048576 a) := by
  refine sz_u (u_laws_szMemory a l) ?_
  unfold B_laws_szMemory
  obtain ⟨b0, b1, b2, _⟩ := hb
  refine sz_bind (sz_Heap b0 (by omega) (by omega)) (fun m0 z0 w0 f0 => ?_)
  refine sz_bind (sz_Scope b1 (by omega) (by omega)) (fun m1 z1 w1 f1 => ?_)
  refine sz_bind (sz_Console b2 (by omega) (by omega)) (fun m2 z2 w2 f2 => ?_)
  exact sz_end (by omega) ⟨f0, f1, f2, trivial⟩
theorem to_StringS {a : Sl ByteArray} (hf : FitS 1048576 (FitString 1048576) a) : ToOk (F_laws_toStringS a) (FitS 1048576 (FitString 1048576)) := by
  refine to_u (u_laws_toStringS a) ?_
  unfold B_laws_toStringS
  have hl := hf.1
  refine slice_to hf.1 (by decide) (fun i x s w hm hi hx hw => ?_) (fun s => by simp)
  exact to_step (G := fun y => some y) (P := FitString 1048576) (by omega) hx hw (to_end (P := FitString 1048576) trivial) (by omega)
theorem to_Value {a : DValue} (hf : FitValue 1048576 a) : ToOk (F_laws_toValue a) (FitValue 1048576) := by
  refine to_u (u_laws_toValue a) ?_
  unfold B_laws_toValue
  exact to_end trivial
theorem to_ValueS {a : Sl DValue} (hf : FitS 1048576 (FitValue 1048576) a) : ToOk (F_laws_toValueS a) (FitS 1048576 (FitValue 1048576)) := by
  refine to_u (u_laws_toValueS a) ?_
  unfold B_laws_toValueS
  have hl := hf.1
  refine slice_to hf.1 (by decide) (fun i x s w hm hi hx hw => ?_) (fun s => by simp)
  exact to_step (G := fun y => F_laws_toValue y) (by omega) hx hw (to_Value (hf.2 x hm)) (by omega)
theorem to_Object {a : DObject} (hf : FitObject 1048576 a) : ToOk (F_laws_toObject a) (FitObject 1048576) := by
  refine to_u (u_laws_toObject a) ?_
  unfold B_laws_toObject
  obtain ⟨f0, f1, f2, _⟩ := hf
  refine to_bind (to_ValueS f0) (fun y0 g0 => ?_)
  refine to_bind (to_ValueS f1) (fun y1 g1 => ?_)
  refine to_bind (to_Value f2) (fun y2 g2 => ?_)
  exact to_end ⟨g0, g1, g2, trivial⟩
theorem to_ObjectS {a : Sl DObject} (hf : FitS 1048576 (FitObject 1048576) a) : ToOk (F_laws_toObjectS a) (FitS 1048576 (FitObject 1048576)) := by
  refine to_u (u_laws_toObjectS a) ?_
  unfold B_laws_toObjectS
  have hl := hf.1
  refine slice_to hf.1 (by decide) (fun i x s w hm hi hx hw => ?_) (fun s => by simp)
  exact to_step (G := fun y => F_laws_toObject y) (by omega) hx hw (to_Object (hf.2 x hm)) (by omega)
theorem to_Binding {a : DBinding} (hf : FitBinding 1048576 a) : ToOk (F_laws_toBinding a) (FitBinding 1048576) := by
  refine to_u (u_laws_toBinding a) ?_
  unfold B_laws_toBinding
  obtain ⟨f0, _⟩ := hf
  refine to_bind (to_Value f0) (fun y0 g0 => ?_)
  exact to_end ⟨g0, trivial⟩
theorem to_BindingS {a : Sl DBinding} (hf : FitS 1048576 (FitBinding 1048576) a) : ToOk (F_laws_toBindingS a) (FitS 1048576 (FitBinding 1048576)) := by
  refine to_u (u_laws_toBindingS a) ?_
  unfold B_laws_toBindingS
  have hl := hf.1
  refine slice_to hf.1 (by decide) (fun i x s w hm hi hx hw => ?_) (fun s => by simp)
  exact to_step (G := fun y => F_laws_toBinding y) (by omega) hx hw (to_Binding (hf.2 x hm)) (by omega)
theorem to_Function {a : DFunction} (hf : FitFunction 1048576 a) : ToOk (F_laws_toFunction a) (FitFunction 1048576) := by
  refine to_u (u_laws_toFunction a) ?_
  unfold B_laws_toFunction
  obtain ⟨f0, f1, _⟩ := hf
  refine to_bind (to_StringS f0) (fun y0 g0 => ?_)
  refine to_bind (to_StringS f1) (fun y1 g1 => ?_)
  exact to_end ⟨g0, g1, trivial⟩
theorem to_FunctionS {a : Sl DFunction} (hf : FitS 1048576 (FitFunction 1048576) a) : ToOk (F_laws_toFunctionS a) (FitS 1048576 (FitFunction 1048576)) := by
  refine to_u (u_laws_toFunctionS a) ?_
  unfold B_laws_toFunctionS
  have hl := hf.1
  refine slice_to hf.1 (by decide) (fun i x s w hm hi hx hw => ?_) (fun s => by simp)
  exact to_step (G := fun y => F_laws_toFunction y) (by omega) hx hw (to_Function (hf.2 x hm)) (by omega)
theorem to_RecordType {a : DRecordType} (hf : FitRecordType 1048576 a) : ToOk (F_laws_toRecordType a) (FitRecordType 1048576) := by
  refine to_u (u_laws_toRecordType a) ?_
  unfold B_laws_toRecordType
  obtain ⟨f0, _⟩ := hf
  refine to_bind (to_StringS f0) (fun y0 g0 => ?_)
  exact to_end ⟨g0, trivial⟩
theorem to_RecordTypeS {a : Sl DRecordType} (hf : FitS 1048576 (FitRecordType 1048576) a) : ToOk (F_laws_toRecordTypeS a) (FitS 1048576 (FitRecordType 1048576)) := by
  refine to_u (u_laws_toRecordTypeS a) ?_
  unfold B_laws_toRecordTypeS
  have hl := hf.1
  refine slice_to hf.1 (by decide) (fun i x s w hm hi hx hw => ?_) (fun s => by simp)
  exact to_step (G := fun y => F_laws_toRecordType y) (by omega) hx hw (to_RecordType (hf.2 x hm)) (by omega)
theorem to_File {a : DFile} (hf : FitFile 1048576 a) : ToOk (F_laws_toFile a) (FitFile 1048576) := by
  refine to_u (u_laws_toFile a) ?_
  unfold B_laws_toFile
  obtain ⟨f0, _⟩ := hf
  refine to_bind (to_StringS f0) (fun y0 g0 => ?_)
  exact to_end ⟨g0, trivial⟩
theorem to_FileS {a : Sl DFile} (hf : FitS 1048576 (FitFile 1048576) a) : ToOk (F_laws_toFileS a) (FitS 1048576 (FitFile 1048576)) := by
  refine to_u (u_laws_toFileS a) ?_
  unfold B_laws_toFileS
  have hl := hf.1
  refine slice_to hf.1 (by decide) (fun i x s w hm hi hx hw => ?_) (fun s => by simp)
  exact to_step (G := fun y => F_laws_toFile y) (by omega) hx hw (to_File (hf.2 x hm)) (by omega)
theorem to_Heap {a : DHeap} (hf : FitHeap 1048576 a) : ToOk (F_laws_toHeap a) (FitHeap 1048576) := by
  refine to_u (u_laws_toHeap a) ?_
  unfold B_laws_toHeap
  obtain ⟨f0, _⟩ := hf
  refine to_bind (to_ObjectS f0) (fun y0 g0 => ?_)
  exact to_end ⟨g0, trivial⟩
theorem to_Scope {a : DScope} (hf : FitScope 1048576 a) : ToOk (F_laws_toScope a) (FitScope 1048576) := by
  refine to_u (u_laws_toScope a) ?_
  unfold B_laws_toScope
  obtain ⟨f0, f1, f2, _⟩ := hf
  refine to_bind (to_BindingS f0) (fun y0 g0 => ?_)
  refine to_bind (to_FunctionS f1) (fun y1 g1 => ?_)
  refine to_bind (to_RecordTypeS f2) (fun y2 g2 => ?_)
  exact to_end ⟨g0, g1, g2, trivial⟩
theorem to_Console {a : DConsole} (hf : FitConsole 1048576 a) : ToOk (F_laws_toConsole a) (FitConsole 1048576) := by
  refine to_u (u_laws_toConsole a) ?_
  unfold B_laws_toConsole
  obtain ⟨f0, f1, f2, f3, _⟩ := hf
  refine to_bind (to_StringS f0) (fun y0 g0 => ?_)
  refine to_bind (to_StringS f1) (fun y1 g1 => ?_)
  refine to_bind (to_FileS f2) (fun y2 g2 => ?_)
  refine to_bind (to_StringS f3) (fun y3 g3 => ?_)
  exact to_end ⟨g0, g1, g2, g3, trivial⟩
theorem to_Memory {a : DMemory} (hf : FitMemory 1048576 a) : ToOk (F_laws_toMemory a) (FitMemory 1048576) := by
  refine to_u (u_laws_toMemory a) ?_
  unfold B_laws_toMemory
  obtain ⟨f0, f1, f2, _⟩ := hf
  refine to_bind (to_Heap f0) (fun y0 g0 => ?_)
  refine to_bind (to_Scope f1) (fun y1 g1 => ?_)
  refine to_bind (to_Console f2) (fun y2 g2 => ?_)
  exact to_end ⟨g0, g1, g2, trivial⟩
end Go.Am
end
