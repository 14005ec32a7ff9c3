/- The data. -/
import Derived.Test.YtibhahlikgiegaaAm5
import Derived.Test.YtibhahlikgiegaaProg
section
set_option maxRecDepth 100000
set_option linter.unusedVariables false
set_option linter.unusedSimpArgs false
namespace Go.Am
open Go.Proofs
structure DFile where
  Name : ByteArray
  Lines : (Sl ByteArray)
  Mode : Int
  At : Int
def DFile.cells (x : DFile) : List T := [.str x.Name, (Sl.t (x.Lines : Sl ByteArray)), .int .i64 x.Mode, .int .i64 x.At]
instance : Enc DFile := ⟨DFile.cells, 4, fun _ => rfl, fun _ => rfl, fun x => by simp [DFile.cells, pureL, pureT], fun a b h => by
  rcases a with ⟨_, _, _, _⟩; rcases b with ⟨_, _, _, _⟩; simp [DFile.cells] at h; simp_all⟩
structure DConsole where
  Input : (Sl ByteArray)
  At : Int
  Output : (Sl ByteArray)
  Files : (Sl DFile)
  Trace : (Sl ByteArray)
def DConsole.cells (x : DConsole) : List T := [(Sl.t (x.Input : Sl ByteArray)), .int .i64 x.At, (Sl.t (x.Output : Sl ByteArray)), (Sl.t (x.Files : Sl DFile)), (Sl.t (x.Trace : Sl ByteArray))]
instance : Enc DConsole := ⟨DConsole.cells, 5, fun _ => rfl, fun _ => rfl, fun x => by simp [DConsole.cells, pureL, pureT], fun a b h => by
  rcases a with ⟨_, _, _, _, _⟩; rcases b with ⟨_, _, _, _, _⟩; simp [DConsole.cells] at h; simp_all⟩
structure DL00Src where
  code_ : (Sl (Iv .u8))
  at_ : Int
  seed_ : Int
def DL00Src.cells (x : DL00Src) : List T := [(Sl.t (x.code_ : Sl (Iv .u8))), .int .i64 x.at_, .int .u64 x.seed_]
instance : Enc DL00Src := ⟨DL00Src.cells, 3, fun _ => rfl, fun _ => rfl, fun x => by simp [DL00Src.cells, pureL, pureT], fun a b h => by
  rcases a with ⟨_, _, _⟩; rcases b with ⟨_, _, _⟩; simp [DL00Src.cells] at h; simp_all⟩
def md : Nat → Md := fun f => bif [16, 17, 20, 21, 25, 26, 27, 28, 29, 30, 31, 32, 33, 43, 49, 50, 51, 93, 95, 96, 100].elem f then .own else bif [23, 39, 40, 44, 46, 54, 55, 59, 60, 62, 63, 64, 66, 69, 72, 75, 80, 81, 82, 83, 84, 104, 105, 110, 111, 118].elem f then .raw else .view
def ext : Ext := fun _ => none
theorem len1 {hs : List T} (h : hs.length = 1) : ∃ a0, hs = [a0] := by
  rcases hs with _ | ⟨a0, _ | ⟨x, l⟩⟩ <;> simp at h
  exact ⟨a0, rfl⟩
theorem len4 {hs : List T} (h : hs.length = 4) : ∃ a0 a1 a2 a3, hs = [a0, a1, a2, a3] := by
  rcases hs with _ | ⟨a0, _ | ⟨a1, _ | ⟨a2, _ | ⟨a3, _ | ⟨x, l⟩⟩⟩⟩⟩ <;> simp at h
  exact ⟨a0, a1, a2, a3, rfl⟩
def E_bool : Bool → T := fun y => .bool y
theorem E_bool_inj : ∀ a b, E_bool a = E_bool b → a = b := inj_bool
def E_DConsole : DConsole → T := fun y => .agg (DConsole.cells y)
theorem E_DConsole_inj : ∀ a b, E_DConsole a = E_DConsole b → a = b := inj_agg
def E_t3_DConsole_str_bool : (DConsole × ByteArray × Bool) → T := fun y => .tup [.agg (DConsole.cells y.1), .str y.2.1, .bool y.2.2]
theorem E_t3_DConsole_str_bool_inj : ∀ a b, E_t3_DConsole_str_bool a = E_t3_DConsole_str_bool b → a = b := inj_t3 inj_agg inj_str inj_bool
def E_t2_DConsole_i64 : (DConsole × Int) → T := fun y => .tup [.agg (DConsole.cells y.1), .int .i64 y.2]
theorem E_t2_DConsole_i64_inj : ∀ a b, E_t2_DConsole_i64 a = E_t2_DConsole_i64 b → a = b := inj_t2 inj_agg inj_int
def E_i64 : Int → T := fun y => .int .i64 y
theorem E_i64_inj : ∀ a b, E_i64 a = E_i64 b → a = b := inj_int
def E_t4_DConsole_str_bool_i64 : (DConsole × ByteArray × Bool × Int) → T := fun y => .tup [.agg (DConsole.cells y.1), .str y.2.1, .bool y.2.2.1, .int .i64 y.2.2.2]
theorem E_t4_DConsole_str_bool_i64_inj : ∀ a b, E_t4_DConsole_str_bool_i64 a = E_t4_DConsole_str_bool_i64 b → a = b := inj_t4 inj_agg inj_str inj_bool inj_int
def E_sl_str : (Sl ByteArray) → T := fun y => (Sl.t (y : Sl ByteArray))
theorem E_sl_str_inj : ∀ a b, E_sl_str a = E_sl_str b → a = b := inj_sl
def E_sl_DFile : (Sl DFile) → T := fun y => (Sl.t (y : Sl DFile))
theorem E_sl_DFile_inj : ∀ a b, E_sl_DFile a = E_sl_DFile b → a = b := inj_sl
def E_t2_i64_i64 : (Int × Int) → T := fun y => .tup [.int .i64 y.1, .int .i64 y.2]
theorem E_t2_i64_i64_inj : ∀ a b, E_t2_i64_i64 a = E_t2_i64_i64 b → a = b := inj_t2 inj_int inj_int
def E_str : ByteArray → T := fun y => .str y
theorem E_str_inj : ∀ a b, E_str a = E_str b → a = b := inj_str
def E_DFile : DFile → T := fun y => .agg (DFile.cells y)
theorem E_DFile_inj : ∀ a b, E_DFile a = E_DFile b → a = b := inj_agg
noncomputable def Sh_sl_str : Shape (Sl ByteArray) := ⟨1, fun hs y => match hs with | [h1] => h1 | _ => .tup [], fun hs y => match hs with | [h1] => [.own true 1 h1 (Sl.t (y : Sl ByteArray))] | _ => [], E_sl_str, fun hs y h => by
  obtain ⟨h1, rfl⟩ := len1 h
  exact (HL.own rfl HL.nil), E_sl_str_inj⟩
def E_t0_ : Unit → T := fun _ => .tup []
theorem E_t0__inj : ∀ a b, E_t0_ a = E_t0_ b → a = b := fun _ _ _ => rfl
def E_t2_DConsole_str : (DConsole × ByteArray) → T := fun y => .tup [.agg (DConsole.cells y.1), .str y.2]
theorem E_t2_DConsole_str_inj : ∀ a b, E_t2_DConsole_str a = E_t2_DConsole_str b → a = b := inj_t2 inj_agg inj_str
noncomputable def Sh_t3_DConsole_str_bool : Shape (DConsole × ByteArray × Bool) := ⟨4, fun hs y => match hs with | [h1, h2, h3, h4] => .tup [.agg [h1, .int .i64 y.1.At, h2, h3, h4], .str y.2.1, .bool y.2.2] | _ => .tup [], fun hs y => match hs with | [h1, h2, h3, h4] => [.own true 1 h1 (Sl.t (y.1.Input : Sl ByteArray)), .own true 1 h2 (Sl.t (y.1.Output : Sl ByteArray)), .own true 4 h3 (Sl.t (y.1.Files : Sl DFile)), .own true 1 h4 (Sl.t (y.1.Trace : Sl ByteArray))] | _ => [], E_t3_DConsole_str_bool, fun hs y h => by
  obtain ⟨h1, h2, h3, h4, rfl⟩ := len4 h
  exact (HL.tup (es1 := [.own true 1 h1 (Sl.t (y.1.Input : Sl ByteArray)), .own true 1 h2 (Sl.t (y.1.Output : Sl ByteArray)), .own true 4 h3 (Sl.t (y.1.Files : Sl DFile)), .own true 1 h4 (Sl.t (y.1.Trace : Sl ByteArray))]) (es2 := []) (HL.agg (es1 := [.own true 1 h1 (Sl.t (y.1.Input : Sl ByteArray)), .own true 1 h2 (Sl.t (y.1.Output : Sl ByteArray)), .own true 4 h3 (Sl.t (y.1.Files : Sl DFile)), .own true 1 h4 (Sl.t (y.1.Trace : Sl ByteArray))]) (es2 := []) (HL.own rfl (HL.leaf (fun σ d => by simp) (HL.own rfl (HL.own rfl (HL.own rfl HL.nil))))) (HL.leaf (fun σ d => by simp) (HL.leaf (fun σ d => by simp) HL.nil))) HL.nil), E_t3_DConsole_str_bool_inj⟩
noncomputable def Sh_t2_DConsole_i64 : Shape (DConsole × Int) := ⟨4, fun hs y => match hs with | [h1, h2, h3, h4] => .tup [.agg [h1, .int .i64 y.1.At, h2, h3, h4], .int .i64 y.2] | _ => .tup [], fun hs y => match hs with | [h1, h2, h3, h4] => [.own true 1 h1 (Sl.t (y.1.Input : Sl ByteArray)), .own true 1 h2 (Sl.t (y.1.Output : Sl ByteArray)), .own true 4 h3 (Sl.t (y.1.Files : Sl DFile)), .own true 1 h4 (Sl.t (y.1.Trace : Sl ByteArray))] | _ => [], E_t2_DConsole_i64, fun hs y h => by
  obtain ⟨h1, h2, h3, h4, rfl⟩ := len4 h
  exact (HL.tup (es1 := [.own true 1 h1 (Sl.t (y.1.Input : Sl ByteArray)), .own true 1 h2 (Sl.t (y.1.Output : Sl ByteArray)), .own true 4 h3 (Sl.t (y.1.Files : Sl DFile)), .own true 1 h4 (Sl.t (y.1.Trace : Sl ByteArray))]) (es2 := []) (HL.agg (es1 := [.own true 1 h1 (Sl.t (y.1.Input : Sl ByteArray)), .own true 1 h2 (Sl.t (y.1.Output : Sl ByteArray)), .own true 4 h3 (Sl.t (y.1.Files : Sl DFile)), .own true 1 h4 (Sl.t (y.1.Trace : Sl ByteArray))]) (es2 := []) (HL.own rfl (HL.leaf (fun σ d => by simp) (HL.own rfl (HL.own rfl (HL.own rfl HL.nil))))) (HL.leaf (fun σ d => by simp) HL.nil)) HL.nil), E_t2_DConsole_i64_inj⟩
noncomputable def Sh_DConsole : Shape DConsole := ⟨4, fun hs y => match hs with | [h1, h2, h3, h4] => .agg [h1, .int .i64 y.At, h2, h3, h4] | _ => .tup [], fun hs y => match hs with | [h1, h2, h3, h4] => [.own true 1 h1 (Sl.t (y.Input : Sl ByteArray)), .own true 1 h2 (Sl.t (y.Output : Sl ByteArray)), .own true 4 h3 (Sl.t (y.Files : Sl DFile)), .own true 1 h4 (Sl.t (y.Trace : Sl ByteArray))] | _ => [], E_DConsole, fun hs y h => by
  obtain ⟨h1, h2, h3, h4, rfl⟩ := len4 h
  exact (HL.agg (es1 := [.own true 1 h1 (Sl.t (y.Input : Sl ByteArray)), .own true 1 h2 (Sl.t (y.Output : Sl ByteArray)), .own true 4 h3 (Sl.t (y.Files : Sl DFile)), .own true 1 h4 (Sl.t (y.Trace : Sl ByteArray))]) (es2 := []) (HL.own rfl (HL.leaf (fun σ d => by simp) (HL.own rfl (HL.own rfl (HL.own rfl HL.nil))))) HL.nil), E_DConsole_inj⟩
noncomputable def Sh_t4_DConsole_str_bool_i64 : Shape (DConsole × ByteArray × Bool × Int) := ⟨4, fun hs y => match hs with | [h1, h2, h3, h4] => .tup [.agg [h1, .int .i64 y.1.At, h2, h3, h4], .str y.2.1, .bool y.2.2.1, .int .i64 y.2.2.2] | _ => .tup [], fun hs y => match hs with | [h1, h2, h3, h4] => [.own true 1 h1 (Sl.t (y.1.Input : Sl ByteArray)), .own true 1 h2 (Sl.t (y.1.Output : Sl ByteArray)), .own true 4 h3 (Sl.t (y.1.Files : Sl DFile)), .own true 1 h4 (Sl.t (y.1.Trace : Sl ByteArray))] | _ => [], E_t4_DConsole_str_bool_i64, fun hs y h => by
  obtain ⟨h1, h2, h3, h4, rfl⟩ := len4 h
  exact (HL.tup (es1 := [.own true 1 h1 (Sl.t (y.1.Input : Sl ByteArray)), .own true 1 h2 (Sl.t (y.1.Output : Sl ByteArray)), .own true 4 h3 (Sl.t (y.1.Files : Sl DFile)), .own true 1 h4 (Sl.t (y.1.Trace : Sl ByteArray))]) (es2 := []) (HL.agg (es1 := [.own true 1 h1 (Sl.t (y.1.Input : Sl ByteArray)), .own true 1 h2 (Sl.t (y.1.Output : Sl ByteArray)), .own true 4 h3 (Sl.t (y.1.Files : Sl DFile)), .own true 1 h4 (Sl.t (y.1.Trace : Sl ByteArray))]) (es2 := []) (HL.own rfl (HL.leaf (fun σ d => by simp) (HL.own rfl (HL.own rfl (HL.own rfl HL.nil))))) (HL.leaf (fun σ d => by simp) (HL.leaf (fun σ d => by simp) (HL.leaf (fun σ d => by simp) HL.nil)))) HL.nil), E_t4_DConsole_str_bool_i64_inj⟩
noncomputable def Sh_sl_DFile : Shape (Sl DFile) := ⟨1, fun hs y => match hs with | [h1] => h1 | _ => .tup [], fun hs y => match hs with | [h1] => [.own true 4 h1 (Sl.t (y : Sl DFile))] | _ => [], E_sl_DFile, fun hs y h => by
  obtain ⟨h1, rfl⟩ := len1 h
  exact (HL.own rfl HL.nil), E_sl_DFile_inj⟩
noncomputable def Sh_DFile : Shape DFile := ⟨1, fun hs y => match hs with | [h1] => .agg [.str y.Name, h1, .int .i64 y.Mode, .int .i64 y.At] | _ => .tup [], fun hs y => match hs with | [h1] => [.own true 1 h1 (Sl.t (y.Lines : Sl ByteArray))] | _ => [], E_DFile, fun hs y h => by
  obtain ⟨h1, rfl⟩ := len1 h
  exact (HL.agg (es1 := [.own true 1 h1 (Sl.t (y.Lines : Sl ByteArray))]) (es2 := []) (HL.leaf (fun σ d => by simp) (HL.own rfl (HL.leaf (fun σ d => by simp) (HL.leaf (fun σ d => by simp) HL.nil)))) HL.nil), E_DFile_inj⟩
noncomputable def F_laws_FnConsole10 (a0 : (Sl (Iv .u8))) : Option Bool := semV Try.prog md ext E_bool 3 [(Sl.t (a0 : Sl (Iv .u8)))]
noncomputable def F_laws_FnExactReadLine (a0 : DConsole) : Option Bool := semV Try.prog md ext E_bool 4 [(.agg (DConsole.cells a0))]
noncomputable def F_laws_FnExactWriteLine (a0 : DConsole) (a1 : ByteArray) : Option Bool := semV Try.prog md ext E_bool 5 [(.agg (DConsole.cells a0)), (.str a1)]
noncomputable def F_laws_FnExactRewindFile (a0 : DConsole) (a1 : ByteArray) : Option Bool := semV Try.prog md ext E_bool 6 [(.agg (DConsole.cells a0)), (.str a1)]
noncomputable def F_laws_FnExactCloseFile (a0 : DConsole) (a1 : ByteArray) : Option Bool := semV Try.prog md ext E_bool 7 [(.agg (DConsole.cells a0)), (.str a1)]
noncomputable def F_laws_FnExactReadFile (a0 : DConsole) (a1 : ByteArray) : Option Bool := semV Try.prog md ext E_bool 8 [(.agg (DConsole.cells a0)), (.str a1)]
noncomputable def F_laws_FnExactWriteFile (a0 : DConsole) (a1 : ByteArray) (a2 : ByteArray) : Option Bool := semV Try.prog md ext E_bool 9 [(.agg (DConsole.cells a0)), (.str a1), (.str a2)]
noncomputable def F_laws_FnExactDeleteFile (a0 : DConsole) (a1 : ByteArray) : Option Bool := semV Try.prog md ext E_bool 10 [(.agg (DConsole.cells a0)), (.str a1)]
noncomputable def F_laws_FnFiles (a0 : (Sl (Iv .u8))) (a1 : (Sl (Iv .u8))) : Option Bool := semV Try.prog md ext E_bool 11 [(Sl.t (a0 : Sl (Iv .u8))), (Sl.t (a1 : Sl (Iv .u8)))]
noncomputable def F_laws_FnExactOpenFile (a0 : DConsole) (a1 : ByteArray) (a2 : Int) : Option Bool := semV Try.prog md ext E_bool 12 [(.agg (DConsole.cells a0)), (.str a1), (.int .i64 a2)]
noncomputable def F_laws_b10Long (a0 : (Sl (Iv .u8))) : Option Bool := semV Try.prog md ext E_bool 13 [(Sl.t (a0 : Sl (Iv .u8)))]
noncomputable def F_spec_DrawReadLine (a0 : (Sl (Iv .u8))) : Option DConsole := semV Try.prog md ext E_DConsole 14 [(Sl.t (a0 : Sl (Iv .u8)))]
noncomputable def F_spec_ValidConsole (a0 : DConsole) : Option Bool := semV Try.prog md ext E_bool 15 [(.agg (DConsole.cells a0))]
noncomputable def F_impl_ReadLine (a0 : DConsole) : Option (DConsole × ByteArray × Bool) := semO Try.prog md ext Sh_t3_DConsole_str_bool 16 [(.agg (DConsole.cells a0))]
noncomputable def F_impl_WriteLine (a0 : DConsole) (a1 : ByteArray) : Option (DConsole × Int) := semO Try.prog md ext Sh_t2_DConsole_i64 17 [(.agg (DConsole.cells a0)), (.str a1)]
noncomputable def F_laws_b10Texts (a0 : (Sl ByteArray)) (a1 : (Sl ByteArray)) : Option Bool := semV Try.prog md ext E_bool 18 [(Sl.t (a0 : Sl ByteArray)), (Sl.t (a1 : Sl ByteArray))]
noncomputable def F_laws_szConsole (a0 : DConsole) (a1 : Int) : Option Int := semV Try.prog md ext E_i64 19 [(.agg (DConsole.cells a0)), (.int .i64 a1)]
noncomputable def F_spec_ReadLine (a0 : DConsole) : Option (DConsole × ByteArray × Bool) := semO Try.prog md ext Sh_t3_DConsole_str_bool 20 [(.agg (DConsole.cells a0))]
noncomputable def F_laws_toConsole (a0 : DConsole) : Option DConsole := semO Try.prog md ext Sh_DConsole 21 [(.agg (DConsole.cells a0))]
noncomputable def F_laws_eqConsole (a0 : DConsole) (a1 : DConsole) : Option Bool := semV Try.prog md ext E_bool 22 [(.agg (DConsole.cells a0)), (.agg (DConsole.cells a1))]
noncomputable def F_laws_heldConsole (a0 : DConsole) (a1 : Int) : Option Int := semV Try.prog md ext E_i64 24 [(.agg (DConsole.cells a0)), (.int .i64 a1)]
noncomputable def F_spec_WriteLine (a0 : DConsole) (a1 : ByteArray) : Option (DConsole × Int) := semO Try.prog md ext Sh_t2_DConsole_i64 25 [(.agg (DConsole.cells a0)), (.str a1)]
noncomputable def F_spec_RewindFile (a0 : DConsole) (a1 : ByteArray) : Option (DConsole × Int) := semO Try.prog md ext Sh_t2_DConsole_i64 26 [(.agg (DConsole.cells a0)), (.str a1)]
noncomputable def F_impl_RewindFile (a0 : DConsole) (a1 : ByteArray) : Option (DConsole × Int) := semO Try.prog md ext Sh_t2_DConsole_i64 27 [(.agg (DConsole.cells a0)), (.str a1)]
noncomputable def F_spec_CloseFile (a0 : DConsole) (a1 : ByteArray) : Option (DConsole × Int) := semO Try.prog md ext Sh_t2_DConsole_i64 28 [(.agg (DConsole.cells a0)), (.str a1)]
noncomputable def F_impl_CloseFile (a0 : DConsole) (a1 : ByteArray) : Option (DConsole × Int) := semO Try.prog md ext Sh_t2_DConsole_i64 29 [(.agg (DConsole.cells a0)), (.str a1)]
noncomputable def F_spec_ReadFile (a0 : DConsole) (a1 : ByteArray) : Option (DConsole × ByteArray × Bool × Int) := semO Try.prog md ext Sh_t4_DConsole_str_bool_i64 30 [(.agg (DConsole.cells a0)), (.str a1)]
noncomputable def F_impl_ReadFile (a0 : DConsole) (a1 : ByteArray) : Option (DConsole × ByteArray × Bool × Int) := semO Try.prog md ext Sh_t4_DConsole_str_bool_i64 31 [(.agg (DConsole.cells a0)), (.str a1)]
noncomputable def F_spec_WriteFile (a0 : DConsole) (a1 : ByteArray) (a2 : ByteArray) : Option (DConsole × Int) := semO Try.prog md ext Sh_t2_DConsole_i64 32 [(.agg (DConsole.cells a0)), (.str a1), (.str a2)]
noncomputable def F_impl_WriteFile (a0 : DConsole) (a1 : ByteArray) (a2 : ByteArray) : Option (DConsole × Int) := semO Try.prog md ext Sh_t2_DConsole_i64 33 [(.agg (DConsole.cells a0)), (.str a1), (.str a2)]
noncomputable def F_spec_DeleteFile (a0 : DConsole) (a1 : ByteArray) : Option (DConsole × Int) := semV Try.prog md ext E_t2_DConsole_i64 34 [(.agg (DConsole.cells a0)), (.str a1)]
noncomputable def F_impl_DeleteFile (a0 : DConsole) (a1 : ByteArray) : Option (DConsole × Int) := semV Try.prog md ext E_t2_DConsole_i64 35 [(.agg (DConsole.cells a0)), (.str a1)]
noncomputable def F_spec_DrawCloseFile (a0 : (Sl (Iv .u8))) : Option (DConsole × ByteArray) := semV Try.prog md ext E_t2_DConsole_str 36 [(Sl.t (a0 : Sl (Iv .u8)))]
noncomputable def F_impl_OpenFile (a0 : DConsole) (a1 : ByteArray) (a2 : Int) : Option (DConsole × Int) := semV Try.prog md ext E_t2_DConsole_i64 37 [(.agg (DConsole.cells a0)), (.str a1), (.int .i64 a2)]
noncomputable def F_spec_OpenFile (a0 : DConsole) (a1 : ByteArray) (a2 : Int) : Option (DConsole × Int) := semV Try.prog md ext E_t2_DConsole_i64 38 [(.agg (DConsole.cells a0)), (.str a1), (.int .i64 a2)]
noncomputable def F_spec_l21Ok (a0 : DConsole) : Option Bool := semL Try.prog md ext E_bool 41 (fun bs => match bs with | [bp0] => [(.ptr bp0 0 0 5)] | _ => []) [DConsole.cells a0]
noncomputable def F_impl_ValidConsole (a0 : DConsole) : Option Bool := semV Try.prog md ext E_bool 42 [(.agg (DConsole.cells a0))]
noncomputable def F_impl_Console_copied (a0 : DConsole) : Option DConsole := semO Try.prog md ext Sh_DConsole 43 [(.agg (DConsole.cells a0))]
noncomputable def F_impl_isShort (a0 : ByteArray) : Option Bool := semV Try.prog md ext E_bool 45 [(.str a0)]
noncomputable def F_laws_szStringS (a0 : (Sl ByteArray)) (a1 : Int) : Option Int := semV Try.prog md ext E_i64 47 [(Sl.t (a0 : Sl ByteArray)), (.int .i64 a1)]
noncomputable def F_laws_szFileS (a0 : (Sl DFile)) (a1 : Int) : Option Int := semV Try.prog md ext E_i64 48 [(Sl.t (a0 : Sl DFile)), (.int .i64 a1)]
noncomputable def F_spec_l21Own (a0 : DConsole) : Option DConsole := semLO Try.prog md ext Sh_DConsole 49 (fun bs => match bs with | [bp0] => [(.ptr bp0 0 0 5)] | _ => []) [DConsole.cells a0]
noncomputable def F_laws_toStringS (a0 : (Sl ByteArray)) : Option (Sl ByteArray) := semO Try.prog md ext Sh_sl_str 50 [(Sl.t (a0 : Sl ByteArray))]
noncomputable def F_laws_toFileS (a0 : (Sl DFile)) : Option (Sl DFile) := semO Try.prog md ext Sh_sl_DFile 51 [(Sl.t (a0 : Sl DFile))]
noncomputable def F_laws_eqStringS (a0 : (Sl ByteArray)) (a1 : (Sl ByteArray)) : Option Bool := semV Try.prog md ext E_bool 52 [(Sl.t (a0 : Sl ByteArray)), (Sl.t (a1 : Sl ByteArray))]
noncomputable def F_laws_eqFileS (a0 : (Sl DFile)) (a1 : (Sl DFile)) : Option Bool := semV Try.prog md ext E_bool 53 [(Sl.t (a0 : Sl DFile)), (Sl.t (a1 : Sl DFile))]
noncomputable def F_laws_heldStringS (a0 : (Sl ByteArray)) (a1 : Int) : Option Int := semV Try.prog md ext E_i64 56 [(Sl.t (a0 : Sl ByteArray)), (.int .i64 a1)]
noncomputable def F_laws_heldFileS (a0 : (Sl DFile)) (a1 : Int) : Option Int := semV Try.prog md ext E_i64 57 [(Sl.t (a0 : Sl DFile)), (.int .i64 a1)]
noncomputable def F_spec_l21Code (a0 : DConsole) (a1 : ByteArray) : Option (Int × Int) := semL Try.prog md ext E_t2_i64_i64 58 (fun bs => match bs with | [bp0] => [(.ptr bp0 0 0 5), (.str a1)] | _ => []) [DConsole.cells a0]
noncomputable def F_impl_unless (a0 : Bool) (a1 : Int) : Option Int := semV Try.prog md ext E_i64 61 [(.bool a0), (.int .i64 a1)]
noncomputable def F_impl_first (a0 : (Sl (Iv .i64))) : Option Int := semV Try.prog md ext E_i64 65 [(Sl.t (a0 : Sl (Iv .i64)))]
noncomputable def F_slices_DeleteFunc_File (a0 : (Sl DFile)) (a1 : T) : Option (Sl DFile) := semV Try.prog md ext E_sl_DFile 67 [(Sl.t (a0 : Sl DFile)), (a1)]
noncomputable def F_impl_DeleteFile_2 (a0 : DFile) (c0 : T) : Option Bool := semV Try.prog md ext E_bool 68 [(.agg (DFile.cells a0)), c0]
noncomputable def F_impl_IsName (a0 : ByteArray) : Option Bool := semV Try.prog md ext E_bool 70 [(.str a0)]
noncomputable def F_impl_isMode (a0 : Int) : Option Bool := semV Try.prog md ext E_bool 71 [(.int .i64 a0)]
noncomputable def F_impl_nameOfFile (a0 : DFile) : Option ByteArray := semV Try.prog md ext E_str 73 [(.agg (DFile.cells a0))]
noncomputable def F_impl_replaced_File (a0 : (Sl DFile)) (a1 : DFile) (a2 : T) : Option (Sl DFile) := semV Try.prog md ext E_sl_DFile 74 [(Sl.t (a0 : Sl DFile)), (.agg (DFile.cells a1)), (a2)]
noncomputable def F_spec_IsName (a0 : ByteArray) : Option Bool := semV Try.prog md ext E_bool 76 [(.str a0)]
noncomputable def F_spec_l00In (a0 : Int) (a1 : Int) (a2 : Int) : Option Bool := semV Try.prog md ext E_bool 77 [(.int .i64 a0), (.int .i64 a1), (.int .i64 a2)]
noncomputable def F_spec_l21Find (a0 : DConsole) (a1 : ByteArray) : Option Int := semL Try.prog md ext E_i64 78 (fun bs => match bs with | [bp0] => [(.ptr bp0 0 0 5), (.str a1)] | _ => []) [DConsole.cells a0]
noncomputable def F_spec_l21Insert (a0 : (Sl DFile)) (a1 : DFile) : Option (Sl DFile) := semV Try.prog md ext E_sl_DFile 79 [(Sl.t (a0 : Sl DFile)), (.agg (DFile.cells a1))]
noncomputable def F_spec_l21Lines (a0 : (Sl ByteArray)) (a1 : Int) (a2 : Int) : Option Bool := semV Try.prog md ext E_bool 85 [(Sl.t (a0 : Sl ByteArray)), (.int .i64 a1), (.int .i64 a2)]
noncomputable def F_spec_l21File (a0 : DFile) : Option Bool := semV Try.prog md ext E_bool 86 [(.agg (DFile.cells a0))]
noncomputable def F_impl_ValidConsole_1 (a0 : ByteArray) : Option Bool := semV Try.prog md ext E_bool 87 [(.str a0)]
noncomputable def F_impl_areAll_string (a0 : (Sl ByteArray)) (a1 : T) : Option Bool := semV Try.prog md ext E_bool 88 [(Sl.t (a0 : Sl ByteArray)), (a1)]
noncomputable def F_impl_within (a0 : Int) (a1 : Int) (a2 : Int) : Option Bool := semV Try.prog md ext E_bool 89 [(.int .i64 a0), (.int .i64 a1), (.int .i64 a2)]
noncomputable def F_impl_areAll_File (a0 : (Sl DFile)) (a1 : T) : Option Bool := semV Try.prog md ext E_bool 90 [(Sl.t (a0 : Sl DFile)), (a1)]
noncomputable def F_impl_File_isValid (a0 : DFile) : Option Bool := semV Try.prog md ext E_bool 91 [(.agg (DFile.cells a0))]
noncomputable def F_impl_isSorted_File (a0 : (Sl DFile)) (a1 : T) : Option Bool := semV Try.prog md ext E_bool 92 [(Sl.t (a0 : Sl DFile)), (a1)]
noncomputable def F_slices_Clone_string (a0 : (Sl ByteArray)) : Option (Sl ByteArray) := semO Try.prog md ext Sh_sl_str 93 [(Sl.t (a0 : Sl ByteArray))]
noncomputable def F_laws_szFile (a0 : DFile) (a1 : Int) : Option Int := semV Try.prog md ext E_i64 94 [(.agg (DFile.cells a0)), (.int .i64 a1)]
noncomputable def F_spec_l21Texts (a0 : (Sl ByteArray)) : Option (Sl ByteArray) := semO Try.prog md ext Sh_sl_str 95 [(Sl.t (a0 : Sl ByteArray))]
noncomputable def F_laws_toFile (a0 : DFile) : Option DFile := semO Try.prog md ext Sh_DFile 96 [(.agg (DFile.cells a0))]
noncomputable def F_laws_eqFile (a0 : DFile) (a1 : DFile) : Option Bool := semV Try.prog md ext E_bool 97 [(.agg (DFile.cells a0)), (.agg (DFile.cells a1))]
noncomputable def F_laws_markText (a0 : Int) : Option ByteArray := semV Try.prog md ext E_str 98 [(.int .i64 a0)]
noncomputable def F_slices_IndexFunc_File (a0 : (Sl DFile)) (a1 : T) : Option Int := semV Try.prog md ext E_i64 99 [(Sl.t (a0 : Sl DFile)), (a1)]
noncomputable def F_spec_l21Names  : Option (Sl ByteArray) := semO Try.prog md ext Sh_sl_str 100 []
noncomputable def F_impl_isLetter (a0 : Int) : Option Bool := semV Try.prog md ext E_bool 101 [(.int .u8 a0)]
noncomputable def F_impl_areAll_byte (a0 : (Sl (Iv .u8))) (a1 : T) : Option Bool := semV Try.prog md ext E_bool 102 [(Sl.t (a0 : Sl (Iv .u8))), (a1)]
noncomputable def F_impl_isNameByte (a0 : Int) : Option Bool := semV Try.prog md ext E_bool 103 [(.int .u8 a0)]
noncomputable def F_cmp_Compare_string (a0 : ByteArray) (a1 : ByteArray) : Option Int := semV Try.prog md ext E_i64 106 [(.str a0), (.str a1)]
noncomputable def F_slices_Clone_File (a0 : (Sl DFile)) : Option (Sl DFile) := semV Try.prog md ext E_sl_DFile 107 [(Sl.t (a0 : Sl DFile))]
noncomputable def F_slices_Insert_File (a0 : (Sl DFile)) (a1 : Int) (a2 : (Sl DFile)) : Option (Sl DFile) := semV Try.prog md ext E_sl_DFile 108 [(Sl.t (a0 : Sl DFile)), (.int .i64 a1), (Sl.t (a2 : Sl DFile))]
noncomputable def F_spec_l02NameEnd (a0 : ByteArray) (a1 : Int) : Option Int := semV Try.prog md ext E_i64 109 [(.str a0), (.int .i64 a1)]
noncomputable def F_impl_isDigit (a0 : Int) : Option Bool := semV Try.prog md ext E_bool 112 [(.int .u8 a0)]
noncomputable def F_cmp_isNaN_string (a0 : ByteArray) : Option Bool := semV Try.prog md ext E_bool 113 [(.str a0)]
noncomputable def F_slices_rotateRight_File (a0 : (Sl DFile)) (a1 : Int) : Option Unit := semV Try.prog md ext E_t0_ 115 [(Sl.t (a0 : Sl DFile)), (.int .i64 a1)]
noncomputable def F_spec_l02Letter (a0 : Int) : Option Bool := semV Try.prog md ext E_bool 116 [(.int .u8 a0)]
noncomputable def F_spec_l02Digit (a0 : Int) : Option Bool := semV Try.prog md ext E_bool 117 [(.int .u8 a0)]
noncomputable def F_slices_rotateLeft_File (a0 : (Sl DFile)) (a1 : Int) : Option Unit := semV Try.prog md ext E_t0_ 119 [(Sl.t (a0 : Sl DFile)), (.int .i64 a1)]
noncomputable def F_slices_Reverse_File (a0 : (Sl DFile)) : Option Unit := semV Try.prog md ext E_t0_ 120 [(Sl.t (a0 : Sl DFile))]
theorem ok_3 : Ok Try.prog 3 (Try.f3.body.getD .skip) Try.f3.ntmps Try.f3.results.toList := ⟨Try.f3, by kernel_rfl, by kernel_rfl, by kernel_rfl, by kernel_rfl, rfl, rfl⟩
theorem ok_4 : Ok Try.prog 4 (Try.f4.body.getD .skip) Try.f4.ntmps Try.f4.results.toList := ⟨Try.f4, by kernel_rfl, by kernel_rfl, by kernel_rfl, by kernel_rfl, rfl, rfl⟩
theorem ok_5 : Ok Try.prog 5 (Try.f5.body.getD .skip) Try.f5.ntmps Try.f5.results.toList := ⟨Try.f5, by kernel_rfl, by kernel_rfl, by kernel_rfl, by kernel_rfl, rfl, rfl⟩
theorem ok_6 : Ok Try.prog 6 (Try.f6.body.getD .skip) Try.f6.ntmps Try.f6.results.toList := ⟨Try.f6, by kernel_rfl, by kernel_rfl, by kernel_rfl, by kernel_rfl, rfl, rfl⟩
theorem ok_7 : Ok Try.prog 7 (Try.f7.body.getD .skip) Try.f7.ntmps Try.f7.results.toList := ⟨Try.f7, by kernel_rfl, by kernel_rfl, by kernel_rfl, by kernel_rfl, rfl, rfl⟩
theorem ok_8 : Ok Try.prog 8 (Try.f8.body.getD .skip) Try.f8.ntmps Try.f8.results.toList := ⟨Try.f8, by kernel_rfl, by kernel_rfl, by kernel_rfl, by kernel_rfl, rfl, rfl⟩
theorem ok_9 : Ok Try.prog 9 (Try.f9.body.getD .skip) Try.f9.ntmps Try.f9.results.toList := ⟨Try.f9, by kernel_rfl, by kernel_rfl, by kernel_rfl, by kernel_rfl, rfl, rfl⟩
theorem ok_10 : Ok Try.prog 10 (Try.f10.body.getD .skip) Try.f10.ntmps Try.f10.results.toList := ⟨Try.f10, by kernel_rfl, by kernel_rfl, by kernel_rfl, by kernel_rfl, rfl, rfl⟩
theorem ok_11 : Ok Try.prog 11 (Try.f11.body.getD .skip) Try.f11.ntmps Try.f11.results.toList := ⟨Try.f11, by kernel_rfl, by kernel_rfl, by kernel_rfl, by kernel_rfl, rfl, rfl⟩
theorem ok_12 : Ok Try.prog 12 (Try.f12.body.getD .skip) Try.f12.ntmps Try.f12.results.toList := ⟨Try.f12, by kernel_rfl, by kernel_rfl, by kernel_rfl, by kernel_rfl, rfl, rfl⟩
theorem ok_13 : Ok Try.prog 13 (Try.f13.body.getD .skip) Try.f13.ntmps Try.f13.results.toList := ⟨Try.f13, by kernel_rfl, by kernel_rfl, by kernel_rfl, by kernel_rfl, rfl, rfl⟩
theorem ok_14 : Ok Try.prog 14 (Try.f14.body.getD .skip) Try.f14.ntmps Try.f14.results.toList := ⟨Try.f14, by kernel_rfl, by kernel_rfl, by kernel_rfl, by kernel_rfl, rfl, rfl⟩
theorem ok_15 : Ok Try.prog 15 (Try.f15.body.getD .skip) Try.f15.ntmps Try.f15.results.toList := ⟨Try.f15, by kernel_rfl, by kernel_rfl, by kernel_rfl, by kernel_rfl, rfl, rfl⟩
theorem ok_16 : Ok Try.prog 16 (Try.f16.body.getD .skip) Try.f16.ntmps Try.f16.results.toList := ⟨Try.f16, by kernel_rfl, by kernel_rfl, by kernel_rfl, by kernel_rfl, rfl, rfl⟩
theorem ok_17 : Ok Try.prog 17 (Try.f17.body.getD .skip) Try.f17.ntmps Try.f17.results.toList := ⟨Try.f17, by kernel_rfl, by kernel_rfl, by kernel_rfl, by kernel_rfl, rfl, rfl⟩
theorem ok_18 : Ok Try.prog 18 (Try.f18.body.getD .skip) Try.f18.ntmps Try.f18.results.toList := ⟨Try.f18, by kernel_rfl, by kernel_rfl, by kernel_rfl, by kernel_rfl, rfl, rfl⟩
theorem ok_19 : Ok Try.prog 19 (Try.f19.body.getD .skip) Try.f19.ntmps Try.f19.results.toList := ⟨Try.f19, by kernel_rfl, by kernel_rfl, by kernel_rfl, by kernel_rfl, rfl, rfl⟩
theorem ok_20 : Ok Try.prog 20 (Try.f20.body.getD .skip) Try.f20.ntmps Try.f20.results.toList := ⟨Try.f20, by kernel_rfl, by kernel_rfl, by kernel_rfl, by kernel_rfl, rfl, rfl⟩
theorem ok_21 : Ok Try.prog 21 (Try.f21.body.getD .skip) Try.f21.ntmps Try.f21.results.toList := ⟨Try.f21, by kernel_rfl, by kernel_rfl, by kernel_rfl, by kernel_rfl, rfl, rfl⟩
theorem ok_22 : Ok Try.prog 22 (Try.f22.body.getD .skip) Try.f22.ntmps Try.f22.results.toList := ⟨Try.f22, by kernel_rfl, by kernel_rfl, by kernel_rfl, by kernel_rfl, rfl, rfl⟩
theorem ok_23 : Ok Try.prog 23 (Try.f23.body.getD .skip) Try.f23.ntmps Try.f23.results.toList := ⟨Try.f23, by kernel_rfl, by kernel_rfl, by kernel_rfl, by kernel_rfl, rfl, rfl⟩
theorem ok_24 : Ok Try.prog 24 (Try.f24.body.getD .skip) Try.f24.ntmps Try.f24.results.toList := ⟨Try.f24, by kernel_rfl, by kernel_rfl, by kernel_rfl, by kernel_rfl, rfl, rfl⟩
theorem ok_25 : Ok Try.prog 25 (Try.f25.body.getD .skip) Try.f25.ntmps Try.f25.results.toList := ⟨Try.f25, by kernel_rfl, by kernel_rfl, by kernel_rfl, by kernel_rfl, rfl, rfl⟩
theorem ok_26 : Ok Try.prog 26 (Try.f26.body.getD .skip) Try.f26.ntmps Try.f26.results.toList := ⟨Try.f26, by kernel_rfl, by kernel_rfl, by kernel_rfl, by kernel_rfl, rfl, rfl⟩
theorem ok_27 : Ok Try.prog 27 (Try.f27.body.getD .skip) Try.f27.ntmps Try.f27.results.toList := ⟨Try.f27, by kernel_rfl, by kernel_rfl, by kernel_rfl, by kernel_rfl, rfl, rfl⟩
theorem ok_28 : Ok Try.prog 28 (Try.f28.body.getD .skip) Try.f28.ntmps Try.f28.results.toList := ⟨Try.f28, by kernel_rfl, by kernel_rfl, by kernel_rfl, by kernel_rfl, rfl, rfl⟩
theorem ok_29 : Ok Try.prog 29 (Try.f29.body.getD .skip) Try.f29.ntmps Try.f29.results.toList := ⟨Try.f29, by kernel_rfl, by kernel_rfl, by kernel_rfl, by kernel_rfl, rfl, rfl⟩
theorem ok_30 : Ok Try.prog 30 (Try.f30.body.getD .skip) Try.f30.ntmps Try.f30.results.toList := ⟨Try.f30, by kernel_rfl, by kernel_rfl, by kernel_rfl, by kernel_rfl, rfl, rfl⟩
theorem ok_31 : Ok Try.prog 31 (Try.f31.body.getD .skip) Try.f31.ntmps Try.f31.results.toList := ⟨Try.f31, by kernel_rfl, by kernel_rfl, by kernel_rfl, by kernel_rfl, rfl, rfl⟩
theorem ok_32 : Ok Try.prog 32 (Try.f32.body.getD .skip) Try.f32.ntmps Try.f32.results.toList := ⟨Try.f32, by kernel_rfl, by kernel_rfl, by kernel_rfl, by kernel_rfl, rfl, rfl⟩
theorem ok_33 : Ok Try.prog 33 (Try.f33.body.getD .skip) Try.f33.ntmps Try.f33.results.toList := ⟨Try.f33, by kernel_rfl, by kernel_rfl, by kernel_rfl, by kernel_rfl, rfl, rfl⟩
theorem ok_34 : Ok Try.prog 34 (Try.f34.body.getD .skip) Try.f34.ntmps Try.f34.results.toList := ⟨Try.f34, by kernel_rfl, by kernel_rfl, by kernel_rfl, by kernel_rfl, rfl, rfl⟩
theorem ok_35 : Ok Try.prog 35 (Try.f35.body.getD .skip) Try.f35.ntmps Try.f35.results.toList := ⟨Try.f35, by kernel_rfl, by kernel_rfl, by kernel_rfl, by kernel_rfl, rfl, rfl⟩
theorem ok_36 : Ok Try.prog 36 (Try.f36.body.getD .skip) Try.f36.ntmps Try.f36.results.toList := ⟨Try.f36, by kernel_rfl, by kernel_rfl, by kernel_rfl, by kernel_rfl, rfl, rfl⟩
theorem ok_37 : Ok Try.prog 37 (Try.f37.body.getD .skip) Try.f37.ntmps Try.f37.results.toList := ⟨Try.f37, by kernel_rfl, by kernel_rfl, by kernel_rfl, by kernel_rfl, rfl, rfl⟩
theorem ok_38 : Ok Try.prog 38 (Try.f38.body.getD .skip) Try.f38.ntmps Try.f38.results.toList := ⟨Try.f38, by kernel_rfl, by kernel_rfl, by kernel_rfl, by kernel_rfl, rfl, rfl⟩
theorem ok_39 : Ok Try.prog 39 (Try.f39.body.getD .skip) Try.f39.ntmps Try.f39.results.toList := ⟨Try.f39, by kernel_rfl, by kernel_rfl, by kernel_rfl, by kernel_rfl, rfl, rfl⟩
theorem ok_40 : Ok Try.prog 40 (Try.f40.body.getD .skip) Try.f40.ntmps Try.f40.results.toList := ⟨Try.f40, by kernel_rfl, by kernel_rfl, by kernel_rfl, by kernel_rfl, rfl, rfl⟩
theorem ok_41 : Ok Try.prog 41 (Try.f41.body.getD .skip) Try.f41.ntmps Try.f41.results.toList := ⟨Try.f41, by kernel_rfl, by kernel_rfl, by kernel_rfl, by kernel_rfl, rfl, rfl⟩
theorem ok_42 : Ok Try.prog 42 (Try.f42.body.getD .skip) Try.f42.ntmps Try.f42.results.toList := ⟨Try.f42, by kernel_rfl, by kernel_rfl, by kernel_rfl, by kernel_rfl, rfl, rfl⟩
theorem ok_43 : Ok Try.prog 43 (Try.f43.body.getD .skip) Try.f43.ntmps Try.f43.results.toList := ⟨Try.f43, by kernel_rfl, by kernel_rfl, by kernel_rfl, by kernel_rfl, rfl, rfl⟩
theorem ok_44 : Ok Try.prog 44 (Try.f44.body.getD .skip) Try.f44.ntmps Try.f44.results.toList := ⟨Try.f44, by kernel_rfl, by kernel_rfl, by kernel_rfl, by kernel_rfl, rfl, rfl⟩
theorem ok_45 : Ok Try.prog 45 (Try.f45.body.getD .skip) Try.f45.ntmps Try.f45.results.toList := ⟨Try.f45, by kernel_rfl, by kernel_rfl, by kernel_rfl, by kernel_rfl, rfl, rfl⟩
theorem ok_46 : Ok Try.prog 46 (Try.f46.body.getD .skip) Try.f46.ntmps Try.f46.results.toList := ⟨Try.f46, by kernel_rfl, by kernel_rfl, by kernel_rfl, by kernel_rfl, rfl, rfl⟩
theorem ok_47 : Ok Try.prog 47 (Try.f47.body.getD .skip) Try.f47.ntmps Try.f47.results.toList := ⟨Try.f47, by kernel_rfl, by kernel_rfl, by kernel_rfl, by kernel_rfl, rfl, rfl⟩
theorem ok_48 : Ok Try.prog 48 (Try.f48.body.getD .skip) Try.f48.ntmps Try.f48.results.toList := ⟨Try.f48, by kernel_rfl, by kernel_rfl, by kernel_rfl, by kernel_rfl, rfl, rfl⟩
theorem ok_49 : Ok Try.prog 49 (Try.f49.body.getD .skip) Try.f49.ntmps Try.f49.results.toList := ⟨Try.f49, by kernel_rfl, by kernel_rfl, by kernel_rfl, by kernel_rfl, rfl, rfl⟩
theorem ok_50 : Ok Try.prog 50 (Try.f50.body.getD .skip) Try.f50.ntmps Try.f50.results.toList := ⟨Try.f50, by kernel_rfl, by kernel_rfl, by kernel_rfl, by kernel_rfl, rfl, rfl⟩
theorem ok_51 : Ok Try.prog 51 (Try.f51.body.getD .skip) Try.f51.ntmps Try.f51.results.toList := ⟨Try.f51, by kernel_rfl, by kernel_rfl, by kernel_rfl, by kernel_rfl, rfl, rfl⟩
theorem ok_52 : Ok Try.prog 52 (Try.f52.body.getD .skip) Try.f52.ntmps Try.f52.results.toList := ⟨Try.f52, by kernel_rfl, by kernel_rfl, by kernel_rfl, by kernel_rfl, rfl, rfl⟩
theorem ok_53 : Ok Try.prog 53 (Try.f53.body.getD .skip) Try.f53.ntmps Try.f53.results.toList := ⟨Try.f53, by kernel_rfl, by kernel_rfl, by kernel_rfl, by kernel_rfl, rfl, rfl⟩
theorem ok_54 : Ok Try.prog 54 (Try.f54.body.getD .skip) Try.f54.ntmps Try.f54.results.toList := ⟨Try.f54, by kernel_rfl, by kernel_rfl, by kernel_rfl, by kernel_rfl, rfl, rfl⟩
theorem ok_55 : Ok Try.prog 55 (Try.f55.body.getD .skip) Try.f55.ntmps Try.f55.results.toList := ⟨Try.f55, by kernel_rfl, by kernel_rfl, by kernel_rfl, by kernel_rfl, rfl, rfl⟩
theorem ok_56 : Ok Try.prog 56 (Try.f56.body.getD .skip) Try.f56.ntmps Try.f56.results.toList := ⟨Try.f56, by kernel_rfl, by kernel_rfl, by kernel_rfl, by kernel_rfl, rfl, rfl⟩
theorem ok_57 : Ok Try.prog 57 (Try.f57.body.getD .skip) Try.f57.ntmps Try.f57.results.toList := ⟨Try.f57, by kernel_rfl, by kernel_rfl, by kernel_rfl, by kernel_rfl, rfl, rfl⟩
theorem ok_58 : Ok Try.prog 58 (Try.f58.body.getD .skip) Try.f58.ntmps Try.f58.results.toList := ⟨Try.f58, by kernel_rfl, by kernel_rfl, by kernel_rfl, by kernel_rfl, rfl, rfl⟩
theorem ok_59 : Ok Try.prog 59 (Try.f59.body.getD .skip) Try.f59.ntmps Try.f59.results.toList := ⟨Try.f59, by kernel_rfl, by kernel_rfl, by kernel_rfl, by kernel_rfl, rfl, rfl⟩
theorem ok_60 : Ok Try.prog 60 (Try.f60.body.getD .skip) Try.f60.ntmps Try.f60.results.toList := ⟨Try.f60, by kernel_rfl, by kernel_rfl, by kernel_rfl, by kernel_rfl, rfl, rfl⟩
theorem ok_61 : Ok Try.prog 61 (Try.f61.body.getD .skip) Try.f61.ntmps Try.f61.results.toList := ⟨Try.f61, by kernel_rfl, by kernel_rfl, by kernel_rfl, by kernel_rfl, rfl, rfl⟩
theorem ok_62 : Ok Try.prog 62 (Try.f62.body.getD .skip) Try.f62.ntmps Try.f62.results.toList := ⟨Try.f62, by kernel_rfl, by kernel_rfl, by kernel_rfl, by kernel_rfl, rfl, rfl⟩
theorem ok_63 : Ok Try.prog 63 (Try.f63.body.getD .skip) Try.f63.ntmps Try.f63.results.toList := ⟨Try.f63, by kernel_rfl, by kernel_rfl, by kernel_rfl, by kernel_rfl, rfl, rfl⟩
theorem ok_64 : Ok Try.prog 64 (Try.f64.body.getD .skip) Try.f64.ntmps Try.f64.results.toList := ⟨Try.f64, by kernel_rfl, by kernel_rfl, by kernel_rfl, by kernel_rfl, rfl, rfl⟩
theorem ok_65 : Ok Try.prog 65 (Try.f65.body.getD .skip) Try.f65.ntmps Try.f65.results.toList := ⟨Try.f65, by kernel_rfl, by kernel_rfl, by kernel_rfl, by kernel_rfl, rfl, rfl⟩
theorem ok_66 : Ok Try.prog 66 (Try.f66.body.getD .skip) Try.f66.ntmps Try.f66.results.toList := ⟨Try.f66, by kernel_rfl, by kernel_rfl, by kernel_rfl, by kernel_rfl, rfl, rfl⟩
theorem ok_67 : Ok Try.prog 67 (Try.f67.body.getD .skip) Try.f67.ntmps Try.f67.results.toList := ⟨Try.f67, by kernel_rfl, by kernel_rfl, by kernel_rfl, by kernel_rfl, rfl, rfl⟩
theorem ok_68 : Ok Try.prog 68 (Try.f68.body.getD .skip) Try.f68.ntmps Try.f68.results.toList := ⟨Try.f68, by kernel_rfl, by kernel_rfl, by kernel_rfl, by kernel_rfl, rfl, rfl⟩
theorem ok_69 : Ok Try.prog 69 (Try.f69.body.getD .skip) Try.f69.ntmps Try.f69.results.toList := ⟨Try.f69, by kernel_rfl, by kernel_rfl, by kernel_rfl, by kernel_rfl, rfl, rfl⟩
theorem ok_70 : Ok Try.prog 70 (Try.f70.body.getD .skip) Try.f70.ntmps Try.f70.results.toList := ⟨Try.f70, by kernel_rfl, by kernel_rfl, by kernel_rfl, by kernel_rfl, rfl, rfl⟩
theorem ok_71 : Ok Try.prog 71 (Try.f71.body.getD .skip) Try.f71.ntmps Try.f71.results.toList := ⟨Try.f71, by kernel_rfl, by kernel_rfl, by kernel_rfl, by kernel_rfl, rfl, rfl⟩
theorem ok_72 : Ok Try.prog 72 (Try.f72.body.getD .skip) Try.f72.ntmps Try.f72.results.toList := ⟨Try.f72, by kernel_rfl, by kernel_rfl, by kernel_rfl, by kernel_rfl, rfl, rfl⟩
theorem ok_73 : Ok Try.prog 73 (Try.f73.body.getD .skip) Try.f73.ntmps Try.f73.results.toList := ⟨Try.f73, by kernel_rfl, by kernel_rfl, by kernel_rfl, by kernel_rfl, rfl, rfl⟩
theorem ok_74 : Ok Try.prog 74 (Try.f74.body.getD .skip) Try.f74.ntmps Try.f74.results.toList := ⟨Try.f74, by kernel_rfl, by kernel_rfl, by kernel_rfl, by kernel_rfl, rfl, rfl⟩
theorem ok_75 : Ok Try.prog 75 (Try.f75.body.getD .skip) Try.f75.ntmps Try.f75.results.toList := ⟨Try.f75, by kernel_rfl, by kernel_rfl, by kernel_rfl, by kernel_rfl, rfl, rfl⟩
theorem ok_76 : Ok Try.prog 76 (Try.f76.body.getD .skip) Try.f76.ntmps Try.f76.results.toList := ⟨Try.f76, by kernel_rfl, by kernel_rfl, by kernel_rfl, by kernel_rfl, rfl, rfl⟩
theorem ok_77 : Ok Try.prog 77 (Try.f77.body.getD .skip) Try.f77.ntmps Try.f77.results.toList := ⟨Try.f77, by kernel_rfl, by kernel_rfl, by kernel_rfl, by kernel_rfl, rfl, rfl⟩
theorem ok_78 : Ok Try.prog 78 (Try.f78.body.getD .skip) Try.f78.ntmps Try.f78.results.toList := ⟨Try.f78, by kernel_rfl, by kernel_rfl, by kernel_rfl, by kernel_rfl, rfl, rfl⟩
theorem ok_79 : Ok Try.prog 79 (Try.f79.body.getD .skip) Try.f79.ntmps Try.f79.results.toList := ⟨Try.f79, by kernel_rfl, by kernel_rfl, by kernel_rfl, by kernel_rfl, rfl, rfl⟩
theorem ok_80 : Ok Try.prog 80 (Try.f80.body.getD .skip) Try.f80.ntmps Try.f80.results.toList := ⟨Try.f80, by kernel_rfl, by kernel_rfl, by kernel_rfl, by kernel_rfl, rfl, rfl⟩
theorem ok_81 : Ok Try.prog 81 (Try.f81.body.getD .skip) Try.f81.ntmps Try.f81.results.toList := ⟨Try.f81, by kernel_rfl, by kernel_rfl, by kernel_rfl, by kernel_rfl, rfl, rfl⟩
theorem ok_82 : Ok Try.prog 82 (Try.f82.body.getD .skip) Try.f82.ntmps Try.f82.results.toList := ⟨Try.f82, by kernel_rfl, by kernel_rfl, by kernel_rfl, by kernel_rfl, rfl, rfl⟩
theorem ok_83 : Ok Try.prog 83 (Try.f83.body.getD .skip) Try.f83.ntmps Try.f83.results.toList := ⟨Try.f83, by kernel_rfl, by kernel_rfl, by kernel_rfl, by kernel_rfl, rfl, rfl⟩
theorem ok_84 : Ok Try.prog 84 (Try.f84.body.getD .skip) Try.f84.ntmps Try.f84.results.toList := ⟨Try.f84, by kernel_rfl, by kernel_rfl, by kernel_rfl, by kernel_rfl, rfl, rfl⟩
theorem ok_85 : Ok Try.prog 85 (Try.f85.body.getD .skip) Try.f85.ntmps Try.f85.results.toList := ⟨Try.f85, by kernel_rfl, by kernel_rfl, by kernel_rfl, by kernel_rfl, rfl, rfl⟩
theorem ok_86 : Ok Try.prog 86 (Try.f86.body.getD .skip) Try.f86.ntmps Try.f86.results.toList := ⟨Try.f86, by kernel_rfl, by kernel_rfl, by kernel_rfl, by kernel_rfl, rfl, rfl⟩
theorem ok_87 : Ok Try.prog 87 (Try.f87.body.getD .skip) Try.f87.ntmps Try.f87.results.toList := ⟨Try.f87, by kernel_rfl, by kernel_rfl, by kernel_rfl, by kernel_rfl, rfl, rfl⟩
theorem ok_88 : Ok Try.prog 88 (Try.f88.body.getD .skip) Try.f88.ntmps Try.f88.results.toList := ⟨Try.f88, by kernel_rfl, by kernel_rfl, by kernel_rfl, by kernel_rfl, rfl, rfl⟩
theorem ok_89 : Ok Try.prog 89 (Try.f89.body.getD .skip) Try.f89.ntmps Try.f89.results.toList := ⟨Try.f89, by kernel_rfl, by kernel_rfl, by kernel_rfl, by kernel_rfl, rfl, rfl⟩
theorem ok_90 : Ok Try.prog 90 (Try.f90.body.getD .skip) Try.f90.ntmps Try.f90.results.toList := ⟨Try.f90, by kernel_rfl, by kernel_rfl, by kernel_rfl, by kernel_rfl, rfl, rfl⟩
theorem ok_91 : Ok Try.prog 91 (Try.f91.body.getD .skip) Try.f91.ntmps Try.f91.results.toList := ⟨Try.f91, by kernel_rfl, by kernel_rfl, by kernel_rfl, by kernel_rfl, rfl, rfl⟩
theorem ok_92 : Ok Try.prog 92 (Try.f92.body.getD .skip) Try.f92.ntmps Try.f92.results.toList := ⟨Try.f92, by kernel_rfl, by kernel_rfl, by kernel_rfl, by kernel_rfl, rfl, rfl⟩
theorem ok_93 : Ok Try.prog 93 (Try.f93.body.getD .skip) Try.f93.ntmps Try.f93.results.toList := ⟨Try.f93, by kernel_rfl, by kernel_rfl, by kernel_rfl, by kernel_rfl, rfl, rfl⟩
theorem ok_94 : Ok Try.prog 94 (Try.f94.body.getD .skip) Try.f94.ntmps Try.f94.results.toList := ⟨Try.f94, by kernel_rfl, by kernel_rfl, by kernel_rfl, by kernel_rfl, rfl, rfl⟩
theorem ok_95 : Ok Try.prog 95 (Try.f95.body.getD .skip) Try.f95.ntmps Try.f95.results.toList := ⟨Try.f95, by kernel_rfl, by kernel_rfl, by kernel_rfl, by kernel_rfl, rfl, rfl⟩
theorem ok_96 : Ok Try.prog 96 (Try.f96.body.getD .skip) Try.f96.ntmps Try.f96.results.toList := ⟨Try.f96, by kernel_rfl, by kernel_rfl, by kernel_rfl, by kernel_rfl, rfl, rfl⟩
theorem ok_97 : Ok Try.prog 97 (Try.f97.body.getD .skip) Try.f97.ntmps Try.f97.results.toList := ⟨Try.f97, by kernel_rfl, by kernel_rfl, by kernel_rfl, by kernel_rfl, rfl, rfl⟩
theorem ok_98 : Ok Try.prog 98 (Try.f98.body.getD .skip) Try.f98.ntmps Try.f98.results.toList := ⟨Try.f98, by kernel_rfl, by kernel_rfl, by kernel_rfl, by kernel_rfl, rfl, rfl⟩
theorem ok_99 : Ok Try.prog 99 (Try.f99.body.getD .skip) Try.f99.ntmps Try.f99.results.toList := ⟨Try.f99, by kernel_rfl, by kernel_rfl, by kernel_rfl, by kernel_rfl, rfl, rfl⟩
theorem ok_100 : Ok Try.prog 100 (Try.f100.body.getD .skip) Try.f100.ntmps Try.f100.results.toList := ⟨Try.f100, by kernel_rfl, by kernel_rfl, by kernel_rfl, by kernel_rfl, rfl, rfl⟩
theorem ok_101 : Ok Try.prog 101 (Try.f101.body.getD .skip) Try.f101.ntmps Try.f101.results.toList := ⟨Try.f101, by kernel_rfl, by kernel_rfl, by kernel_rfl, by kernel_rfl, rfl, rfl⟩
theorem ok_102 : Ok Try.prog 102 (Try.f102.body.getD .skip) Try.f102.ntmps Try.f102.results.toList := ⟨Try.f102, by kernel_rfl, by kernel_rfl, by kernel_rfl, by kernel_rfl, rfl, rfl⟩
theorem ok_103 : Ok Try.prog 103 (Try.f103.body.getD .skip) Try.f103.ntmps Try.f103.results.toList := ⟨Try.f103, by kernel_rfl, by kernel_rfl, by kernel_rfl, by kernel_rfl, rfl, rfl⟩
theorem ok_104 : Ok Try.prog 104 (Try.f104.body.getD .skip) Try.f104.ntmps Try.f104.results.toList := ⟨Try.f104, by kernel_rfl, by kernel_rfl, by kernel_rfl, by kernel_rfl, rfl, rfl⟩
theorem ok_105 : Ok Try.prog 105 (Try.f105.body.getD .skip) Try.f105.ntmps Try.f105.results.toList := ⟨Try.f105, by kernel_rfl, by kernel_rfl, by kernel_rfl, by kernel_rfl, rfl, rfl⟩
theorem ok_106 : Ok Try.prog 106 (Try.f106.body.getD .skip) Try.f106.ntmps Try.f106.results.toList := ⟨Try.f106, by kernel_rfl, by kernel_rfl, by kernel_rfl, by kernel_rfl, rfl, rfl⟩
theorem ok_107 : Ok Try.prog 107 (Try.f107.body.getD .skip) Try.f107.ntmps Try.f107.results.toList := ⟨Try.f107, by kernel_rfl, by kernel_rfl, by kernel_rfl, by kernel_rfl, rfl, rfl⟩
theorem ok_108 : Ok Try.prog 108 (Try.f108.body.getD .skip) Try.f108.ntmps Try.f108.results.toList := ⟨Try.f108, by kernel_rfl, by kernel_rfl, by kernel_rfl, by kernel_rfl, rfl, rfl⟩
theorem ok_109 : Ok Try.prog 109 (Try.f109.body.getD .skip) Try.f109.ntmps Try.f109.results.toList := ⟨Try.f109, by kernel_rfl, by kernel_rfl, by kernel_rfl, by kernel_rfl, rfl, rfl⟩
theorem ok_110 : Ok Try.prog 110 (Try.f110.body.getD .skip) Try.f110.ntmps Try.f110.results.toList := ⟨Try.f110, by kernel_rfl, by kernel_rfl, by kernel_rfl, by kernel_rfl, rfl, rfl⟩
theorem ok_111 : Ok Try.prog 111 (Try.f111.body.getD .skip) Try.f111.ntmps Try.f111.results.toList := ⟨Try.f111, by kernel_rfl, by kernel_rfl, by kernel_rfl, by kernel_rfl, rfl, rfl⟩
theorem ok_112 : Ok Try.prog 112 (Try.f112.body.getD .skip) Try.f112.ntmps Try.f112.results.toList := ⟨Try.f112, by kernel_rfl, by kernel_rfl, by kernel_rfl, by kernel_rfl, rfl, rfl⟩
theorem ok_113 : Ok Try.prog 113 (Try.f113.body.getD .skip) Try.f113.ntmps Try.f113.results.toList := ⟨Try.f113, by kernel_rfl, by kernel_rfl, by kernel_rfl, by kernel_rfl, rfl, rfl⟩
theorem ok_115 : Ok Try.prog 115 (Try.f115.body.getD .skip) Try.f115.ntmps Try.f115.results.toList := ⟨Try.f115, by kernel_rfl, by kernel_rfl, by kernel_rfl, by kernel_rfl, rfl, rfl⟩
theorem ok_116 : Ok Try.prog 116 (Try.f116.body.getD .skip) Try.f116.ntmps Try.f116.results.toList := ⟨Try.f116, by kernel_rfl, by kernel_rfl, by kernel_rfl, by kernel_rfl, rfl, rfl⟩
theorem ok_117 : Ok Try.prog 117 (Try.f117.body.getD .skip) Try.f117.ntmps Try.f117.results.toList := ⟨Try.f117, by kernel_rfl, by kernel_rfl, by kernel_rfl, by kernel_rfl, rfl, rfl⟩
theorem ok_118 : Ok Try.prog 118 (Try.f118.body.getD .skip) Try.f118.ntmps Try.f118.results.toList := ⟨Try.f118, by kernel_rfl, by kernel_rfl, by kernel_rfl, by kernel_rfl, rfl, rfl⟩
theorem ok_119 : Ok Try.prog 119 (Try.f119.body.getD .skip) Try.f119.ntmps Try.f119.results.toList := ⟨Try.f119, by kernel_rfl, by kernel_rfl, by kernel_rfl, by kernel_rfl, rfl, rfl⟩
theorem ok_120 : Ok Try.prog 120 (Try.f120.body.getD .skip) Try.f120.ntmps Try.f120.results.toList := ⟨Try.f120, by kernel_rfl, by kernel_rfl, by kernel_rfl, by kernel_rfl, rfl, rfl⟩
end Go.Am
end
