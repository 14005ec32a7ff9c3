/- The data. -/
import Derived.Test.YtohkcdkmpencnaaAm5
import Derived.Test.YtohkcdkmpencnaaProg
section
set_option maxRecDepth 100000
set_option linter.unusedVariables false
set_option linter.unusedSimpArgs false
namespace Go.Am
open Go.Proofs
structure ak_ where
 Name : ByteArray
 Lines : (Sl ByteArray)
 Mode : Int
 At : Int
def ak_.cells (x : ak_) : List T := [.str x.Name, x.Lines.t, i4 x.Mode, i4 x.At]
instance : Enc ak_ := ⟨ak_.cells, 4, fun _ => rfl, fun _ => rfl, fun x => by simp [ak_.cells, pureL, pureT], fun a b h => by
 rcases a with ⟨_, _, _, _⟩; rcases b with ⟨_, _, _, _⟩; simp [ak_.cells] at h; simp_all⟩
instance : Lit ak_ := ⟨fun x => [.str x.Name, x.Lines.t, i4 x.Mode, i4 x.At], fun _ => rfl⟩
instance : Hld false ak_ := ⟨fun a σ d => by show frzL (hold false σ d) (ak_.cells a) = some (ak_.cells a, []); simp [ak_.cells, frzL]⟩
structure aa_ where
 Input : (Sl ByteArray)
 At : Int
 Output : (Sl ByteArray)
 Files : (Sl ak_)
 Trace : (Sl ByteArray)
def aa_.cells (x : aa_) : List T := [x.Input.t, i4 x.At, x.Output.t, x.Files.t, x.Trace.t]
instance : Enc aa_ := ⟨aa_.cells, 5, fun _ => rfl, fun _ => rfl, fun x => by simp [aa_.cells, pureL, pureT], fun a b h => by
 rcases a with ⟨_, _, _, _, _⟩; rcases b with ⟨_, _, _, _, _⟩; simp [aa_.cells] at h; simp_all⟩
instance : Lit aa_ := ⟨fun x => [x.Input.t, i4 x.At, x.Output.t, x.Files.t, x.Trace.t], fun _ => rfl⟩
instance : Hld false aa_ := ⟨fun a σ d => by show frzL (hold false σ d) (aa_.cells a) = some (aa_.cells a, []); simp [aa_.cells, frzL]⟩
structure ab_ where
 code_ : (Sl (Iv .u8))
 at_ : Int
 seed_ : Int
def ab_.cells (x : ab_) : List T := [x.code_.t, i4 x.at_, .int .u64 x.seed_]
instance : Enc ab_ := ⟨ab_.cells, 3, fun _ => rfl, fun _ => rfl, fun x => by simp [ab_.cells, pureL, pureT], fun a b h => by
 rcases a with ⟨_, _, _⟩; rcases b with ⟨_, _, _⟩; simp [ab_.cells] at h; simp_all⟩
instance : Lit ab_ := ⟨fun x => [x.code_.t, i4 x.at_, .int .u64 x.seed_], fun _ => rfl⟩
instance : Hld false ab_ := ⟨fun a σ d => by show frzL (hold false σ d) (ab_.cells a) = some (ab_.cells a, []); simp [ab_.cells, frzL]⟩
def md : Nat → Md := fun f => bif [15, 16, 17, 20, 30, 50, 51, 52, 79, 90, 91].elem f then .own else bif [23, 26, 27, 31, 33, 34, 39, 42, 43, 44, 45, 46, 53, 54, 58, 59, 66, 67, 68, 69, 70, 84, 85, 92, 96, 97, 104].elem f then .raw else .view
def ext : Ext := fun _ => none
theorem len0 {hs : List T} (h : hs.length = 0) : hs = [] := List.length_eq_zero_iff.1 h
theorem len1 {hs : List T} (h : hs.length = 1) : ∃ a0, hs = [a0] := by
 rcases hs with _ | ⟨a0, _ | ⟨x, l⟩⟩ <;> simp at h
 exact ⟨a0, rfl⟩
theorem len4 {hs : List T} (h : hs.length = 4) : ∃ a0 a1 a2 a3, hs = [a0, a1, a2, a3] := by
 rcases hs with _ | ⟨a0, _ | ⟨a1, _ | ⟨a2, _ | ⟨a3, _ | ⟨x, l⟩⟩⟩⟩⟩ <;> simp at h
 exact ⟨a0, a1, a2, a3, rfl⟩
def E_bool : Bool → T := fun y => .bool y
theorem E_bool_inj : ∀ a b, E_bool a = E_bool b → a = b := inj_bool
theorem E_bool_p : ∀ v, pureT (E_bool v) = true := fun v => by simp [pureT, pureL, E_bool]
def E_DConsole : aa_ → T := fun y => .agg (aa_.cells y)
theorem E_DConsole_inj : ∀ a b, E_DConsole a = E_DConsole b → a = b := hw_
def E_t3_DConsole_str_bool : (aa_ × ByteArray × Bool) → T := fun y => .tup [.agg (aa_.cells y.1), .str y.2.1, .bool y.2.2]
theorem E_t3_DConsole_str_bool_inj : ∀ a b, E_t3_DConsole_str_bool a = E_t3_DConsole_str_bool b → a = b := nC_ hw_ inj_str inj_bool
theorem E_t3_DConsole_str_bool_p : ∀ v, pureT (E_t3_DConsole_str_bool v) = true := fun v => by simp [pureT, pureL, E_t3_DConsole_str_bool, aa_.cells]
def E_t2_DConsole_i64 : (aa_ × Int) → T := fun y => .tup [.agg (aa_.cells y.1), i4 y.2]
theorem E_t2_DConsole_i64_inj : ∀ a b, E_t2_DConsole_i64 a = E_t2_DConsole_i64 b → a = b := nT_ hw_ iW_
theorem E_t2_DConsole_i64_p : ∀ v, pureT (E_t2_DConsole_i64 v) = true := fun v => by simp [pureT, pureL, E_t2_DConsole_i64, aa_.cells]
def E_i64 : Int → T := fun y => i4 y
theorem E_i64_inj : ∀ a b, E_i64 a = E_i64 b → a = b := iW_
theorem E_i64_p : ∀ v, pureT (E_i64 v) = true := fun v => by simp [pureT, pureL, E_i64]
noncomputable def Sh_DConsole : dD_ aa_ := ⟨4, fun hs y => match hs with | [h1, h2, h3, h4] => .agg [h1, i4 y.At, h2, h3, h4] | _ => .tup [], fun hs y => match hs with | [h1, h2, h3, h4] => [.own true 1 h1 (Sl.t (y.Input : Sl ByteArray)), .own true 1 h2 (Sl.t (y.Output : Sl ByteArray)), .own true 4 h3 (Sl.t (y.Files : Sl ak_)), .own true 1 h4 (Sl.t (y.Trace : Sl ByteArray))] | _ => [], E_DConsole, fun hs y h => by
 obtain ⟨h1, h2, h3, h4, rfl⟩ := len4 h
 exact (HL.agg (es1 := [.own true 1 h1 (Sl.t (y.Input : Sl ByteArray)), .own true 1 h2 (Sl.t (y.Output : Sl ByteArray)), .own true 4 h3 (Sl.t (y.Files : Sl ak_)), .own true 1 h4 (Sl.t (y.Trace : Sl ByteArray))]) (es2 := []) (HL.own rfl (HL.leaf (fun σ d => by simp) (HL.own rfl (HL.own rfl (HL.own rfl HL.nil))))) HL.nil), E_DConsole_inj⟩
def E_str : ByteArray → T := fun y => .str y
theorem E_str_inj : ∀ a b, E_str a = E_str b → a = b := inj_str
theorem E_str_p : ∀ v, pureT (E_str v) = true := fun v => by simp [pureT, pureL, E_str]
def E_sl_str : (Sl ByteArray) → T := fun y => y.t
theorem E_sl_str_inj : ∀ a b, E_sl_str a = E_sl_str b → a = b := nx_
noncomputable def Sh_sl_str : dD_ (Sl ByteArray) := ⟨1, fun hs y => match hs with | [h1] => h1 | _ => .tup [], fun hs y => match hs with | [h1] => [.own true 1 h1 (Sl.t (y : Sl ByteArray))] | _ => [], E_sl_str, fun hs y h => by
 obtain ⟨h1, rfl⟩ := len1 h
 exact (HL.own rfl HL.nil), E_sl_str_inj⟩
noncomputable def cx_ (a0 : (Sl (Iv .u8))) : Option Bool := semV Try.prog md ext E_bool 3 [(a0.t)]
noncomputable def cA_ (a0 : (Sl (Iv .u8))) : Option Bool := semV Try.prog md ext E_bool 7 [(a0.t)]
noncomputable def bt_ (a0 : (Sl (Iv .u8))) : Option aa_ := semV Try.prog md ext E_DConsole 8 [(a0.t)]
noncomputable def aM_ (a0 : aa_) : Option Bool := semV Try.prog md ext E_bool 9 [(.agg (aa_.cells a0))]
noncomputable def aN_ (a0 : aa_) : Option (aa_ × ByteArray × Bool) := semV Try.prog md ext E_t3_DConsole_str_bool 10 [(.agg (aa_.cells a0))]
noncomputable def bl_ (a0 : aa_) (a1 : ByteArray) : Option (aa_ × Int) := semV Try.prog md ext E_t2_DConsole_i64 11 [(.agg (aa_.cells a0)), (.str a1)]
noncomputable def bL_ (a0 : (Sl ByteArray)) (a1 : (Sl ByteArray)) : Option Bool := semV Try.prog md ext E_bool 12 [(a0.t), (a1.t)]
noncomputable def dv_ (a0 : aa_) : Option Bool := semL Try.prog md ext E_bool 28 (fun bs => match bs with | [bp0] => [(.ptr bp0 0 0 5)] | _ => []) [aa_.cells a0]
noncomputable def a1_ (a0 : aa_) : Option Bool := semV Try.prog md ext E_bool 29 [(.agg (aa_.cells a0))]
noncomputable def aS_ (a0 : aa_) : Option aa_ := semO Try.prog md ext Sh_DConsole 30 [(.agg (aa_.cells a0))]
noncomputable def cB_ (a0 : ByteArray) : Option Bool := semV Try.prog md ext E_bool 32 [(.str a0)]
noncomputable def cP_ (a0 : ByteArray) : Option Bool := semV Try.prog md ext E_bool 37 [(.str a0)]
noncomputable def c6_ (a0 : Int) : Option Bool := semV Try.prog md ext E_bool 38 [(i4 a0)]
noncomputable def ew_ (a0 : ak_) : Option ByteArray := semV Try.prog md ext E_str 40 [(.agg (ak_.cells a0))]
noncomputable def cR_ (a0 : ByteArray) : Option Bool := semV Try.prog md ext E_bool 62 [(.str a0)]
noncomputable def b4_ (a0 : Int) (a1 : Int) (a2 : Int) : Option Bool := semV Try.prog md ext E_bool 63 [(i4 a0), (i4 a1), (i4 a2)]
noncomputable def aV_ (a0 : (Sl ByteArray)) (a1 : Int) (a2 : Int) : Option Bool := semV Try.prog md ext E_bool 71 [(a0.t), (i4 a1), (i4 a2)]
noncomputable def cC_ (a0 : ak_) : Option Bool := semV Try.prog md ext E_bool 72 [(.agg (ak_.cells a0))]
noncomputable def b3_ (a0 : ByteArray) : Option Bool := semV Try.prog md ext E_bool 73 [(.str a0)]
noncomputable def al_ (a0 : (Sl ByteArray)) (a1 : T) : Option Bool := semV Try.prog md ext E_bool 74 [(a0.t), (a1)]
noncomputable def bd_ (a0 : Int) (a1 : Int) (a2 : Int) : Option Bool := semV Try.prog md ext E_bool 75 [(i4 a0), (i4 a1), (i4 a2)]
noncomputable def bG_ (a0 : (Sl ak_)) (a1 : T) : Option Bool := semV Try.prog md ext E_bool 76 [(a0.t), (a1)]
noncomputable def bq_ (a0 : ak_) : Option Bool := semV Try.prog md ext E_bool 77 [(.agg (ak_.cells a0))]
noncomputable def bh_ (a0 : (Sl ak_)) (a1 : T) : Option Bool := semV Try.prog md ext E_bool 78 [(a0.t), (a1)]
noncomputable def ay_ (a0 : (Sl ByteArray)) : Option (Sl ByteArray) := semO Try.prog md ext Sh_sl_str 79 [(a0.t)]
noncomputable def F_spec_l21Names  : Option (Sl ByteArray) := semV Try.prog md ext E_sl_str 80 []
noncomputable def bJ_ (a0 : Int) : Option Bool := semV Try.prog md ext E_bool 81 [(.int .u8 a0)]
noncomputable def cu_ (a0 : (Sl (Iv .u8))) (a1 : T) : Option Bool := semV Try.prog md ext E_bool 82 [(a0.t), (a1)]
noncomputable def bY_ (a0 : Int) : Option Bool := semV Try.prog md ext E_bool 83 [(.int .u8 a0)]
noncomputable def bX_ (a0 : ByteArray) (a1 : Int) : Option Int := semV Try.prog md ext E_i64 95 [(.str a0), (i4 a1)]
noncomputable def cz_ (a0 : Int) : Option Bool := semV Try.prog md ext E_bool 98 [(.int .u8 a0)]
noncomputable def a2_ (a0 : Int) : Option Bool := semV Try.prog md ext E_bool 102 [(.int .u8 a0)]
noncomputable def bD_ (a0 : Int) : Option Bool := semV Try.prog md ext E_bool 103 [(.int .u8 a0)]
theorem ext_x : XOk ext := fun _ _ h => by cases h
theorem ext_ok : ∀ f g args σ r σ', ext f = some g → g args σ = some (r, σ') → d7_ Try.prog f args σ r σ' := fun _ _ _ _ _ _ h => by cases h
theorem ok_3 : Ok Try.prog 3 (Try.f3.body.getD .skip) Try.f3.ntmps Try.f3.results.toList := ⟨Try.f3, by kernel_rfl, by kernel_rfl, by kernel_rfl, by kernel_rfl, rfl, rfl⟩
theorem ok_7 : Ok Try.prog 7 (Try.f7.body.getD .skip) Try.f7.ntmps Try.f7.results.toList := ⟨Try.f7, by kernel_rfl, by kernel_rfl, by kernel_rfl, by kernel_rfl, rfl, rfl⟩
theorem ok_8 : Ok Try.prog 8 (Try.f8.body.getD .skip) Try.f8.ntmps Try.f8.results.toList := ⟨Try.f8, by kernel_rfl, by kernel_rfl, by kernel_rfl, by kernel_rfl, rfl, rfl⟩
theorem ok_9 : Ok Try.prog 9 (Try.f9.body.getD .skip) Try.f9.ntmps Try.f9.results.toList := ⟨Try.f9, by kernel_rfl, by kernel_rfl, by kernel_rfl, by kernel_rfl, rfl, rfl⟩
theorem ok_10 : Ok Try.prog 10 (Try.f10.body.getD .skip) Try.f10.ntmps Try.f10.results.toList := ⟨Try.f10, by kernel_rfl, by kernel_rfl, by kernel_rfl, by kernel_rfl, rfl, rfl⟩
theorem ok_11 : Ok Try.prog 11 (Try.f11.body.getD .skip) Try.f11.ntmps Try.f11.results.toList := ⟨Try.f11, by kernel_rfl, by kernel_rfl, by kernel_rfl, by kernel_rfl, rfl, rfl⟩
theorem ok_12 : Ok Try.prog 12 (Try.f12.body.getD .skip) Try.f12.ntmps Try.f12.results.toList := ⟨Try.f12, by kernel_rfl, by kernel_rfl, by kernel_rfl, by kernel_rfl, rfl, rfl⟩
theorem ok_26 : Ok Try.prog 26 (Try.f26.body.getD .skip) Try.f26.ntmps Try.f26.results.toList := ⟨Try.f26, by kernel_rfl, by kernel_rfl, by kernel_rfl, by kernel_rfl, rfl, rfl⟩
theorem ok_27 : Ok Try.prog 27 (Try.f27.body.getD .skip) Try.f27.ntmps Try.f27.results.toList := ⟨Try.f27, by kernel_rfl, by kernel_rfl, by kernel_rfl, by kernel_rfl, rfl, rfl⟩
theorem ok_28 : Ok Try.prog 28 (Try.f28.body.getD .skip) Try.f28.ntmps Try.f28.results.toList := ⟨Try.f28, by kernel_rfl, by kernel_rfl, by kernel_rfl, by kernel_rfl, rfl, rfl⟩
theorem ok_29 : Ok Try.prog 29 (Try.f29.body.getD .skip) Try.f29.ntmps Try.f29.results.toList := ⟨Try.f29, by kernel_rfl, by kernel_rfl, by kernel_rfl, by kernel_rfl, rfl, rfl⟩
theorem ok_30 : Ok Try.prog 30 (Try.f30.body.getD .skip) Try.f30.ntmps Try.f30.results.toList := ⟨Try.f30, by kernel_rfl, by kernel_rfl, by kernel_rfl, by kernel_rfl, rfl, rfl⟩
theorem ok_31 : Ok Try.prog 31 (Try.f31.body.getD .skip) Try.f31.ntmps Try.f31.results.toList := ⟨Try.f31, by kernel_rfl, by kernel_rfl, by kernel_rfl, by kernel_rfl, rfl, rfl⟩
theorem ok_32 : Ok Try.prog 32 (Try.f32.body.getD .skip) Try.f32.ntmps Try.f32.results.toList := ⟨Try.f32, by kernel_rfl, by kernel_rfl, by kernel_rfl, by kernel_rfl, rfl, rfl⟩
theorem ok_33 : Ok Try.prog 33 (Try.f33.body.getD .skip) Try.f33.ntmps Try.f33.results.toList := ⟨Try.f33, by kernel_rfl, by kernel_rfl, by kernel_rfl, by kernel_rfl, rfl, rfl⟩
theorem ok_37 : Ok Try.prog 37 (Try.f37.body.getD .skip) Try.f37.ntmps Try.f37.results.toList := ⟨Try.f37, by kernel_rfl, by kernel_rfl, by kernel_rfl, by kernel_rfl, rfl, rfl⟩
theorem ok_38 : Ok Try.prog 38 (Try.f38.body.getD .skip) Try.f38.ntmps Try.f38.results.toList := ⟨Try.f38, by kernel_rfl, by kernel_rfl, by kernel_rfl, by kernel_rfl, rfl, rfl⟩
theorem ok_40 : Ok Try.prog 40 (Try.f40.body.getD .skip) Try.f40.ntmps Try.f40.results.toList := ⟨Try.f40, by kernel_rfl, by kernel_rfl, by kernel_rfl, by kernel_rfl, rfl, rfl⟩
theorem ok_62 : Ok Try.prog 62 (Try.f62.body.getD .skip) Try.f62.ntmps Try.f62.results.toList := ⟨Try.f62, by kernel_rfl, by kernel_rfl, by kernel_rfl, by kernel_rfl, rfl, rfl⟩
theorem ok_63 : Ok Try.prog 63 (Try.f63.body.getD .skip) Try.f63.ntmps Try.f63.results.toList := ⟨Try.f63, by kernel_rfl, by kernel_rfl, by kernel_rfl, by kernel_rfl, rfl, rfl⟩
theorem ok_66 : Ok Try.prog 66 (Try.f66.body.getD .skip) Try.f66.ntmps Try.f66.results.toList := ⟨Try.f66, by kernel_rfl, by kernel_rfl, by kernel_rfl, by kernel_rfl, rfl, rfl⟩
theorem ok_67 : Ok Try.prog 67 (Try.f67.body.getD .skip) Try.f67.ntmps Try.f67.results.toList := ⟨Try.f67, by kernel_rfl, by kernel_rfl, by kernel_rfl, by kernel_rfl, rfl, rfl⟩
theorem ok_68 : Ok Try.prog 68 (Try.f68.body.getD .skip) Try.f68.ntmps Try.f68.results.toList := ⟨Try.f68, by kernel_rfl, by kernel_rfl, by kernel_rfl, by kernel_rfl, rfl, rfl⟩
theorem ok_69 : Ok Try.prog 69 (Try.f69.body.getD .skip) Try.f69.ntmps Try.f69.results.toList := ⟨Try.f69, by kernel_rfl, by kernel_rfl, by kernel_rfl, by kernel_rfl, rfl, rfl⟩
theorem ok_70 : Ok Try.prog 70 (Try.f70.body.getD .skip) Try.f70.ntmps Try.f70.results.toList := ⟨Try.f70, by kernel_rfl, by kernel_rfl, by kernel_rfl, by kernel_rfl, rfl, rfl⟩
theorem ok_71 : Ok Try.prog 71 (Try.f71.body.getD .skip) Try.f71.ntmps Try.f71.results.toList := ⟨Try.f71, by kernel_rfl, by kernel_rfl, by kernel_rfl, by kernel_rfl, rfl, rfl⟩
theorem ok_72 : Ok Try.prog 72 (Try.f72.body.getD .skip) Try.f72.ntmps Try.f72.results.toList := ⟨Try.f72, by kernel_rfl, by kernel_rfl, by kernel_rfl, by kernel_rfl, rfl, rfl⟩
theorem ok_73 : Ok Try.prog 73 (Try.f73.body.getD .skip) Try.f73.ntmps Try.f73.results.toList := ⟨Try.f73, by kernel_rfl, by kernel_rfl, by kernel_rfl, by kernel_rfl, rfl, rfl⟩
theorem ok_74 : Ok Try.prog 74 (Try.f74.body.getD .skip) Try.f74.ntmps Try.f74.results.toList := ⟨Try.f74, by kernel_rfl, by kernel_rfl, by kernel_rfl, by kernel_rfl, rfl, rfl⟩
theorem ok_75 : Ok Try.prog 75 (Try.f75.body.getD .skip) Try.f75.ntmps Try.f75.results.toList := ⟨Try.f75, by kernel_rfl, by kernel_rfl, by kernel_rfl, by kernel_rfl, rfl, rfl⟩
theorem ok_76 : Ok Try.prog 76 (Try.f76.body.getD .skip) Try.f76.ntmps Try.f76.results.toList := ⟨Try.f76, by kernel_rfl, by kernel_rfl, by kernel_rfl, by kernel_rfl, rfl, rfl⟩
theorem ok_77 : Ok Try.prog 77 (Try.f77.body.getD .skip) Try.f77.ntmps Try.f77.results.toList := ⟨Try.f77, by kernel_rfl, by kernel_rfl, by kernel_rfl, by kernel_rfl, rfl, rfl⟩
theorem ok_78 : Ok Try.prog 78 (Try.f78.body.getD .skip) Try.f78.ntmps Try.f78.results.toList := ⟨Try.f78, by kernel_rfl, by kernel_rfl, by kernel_rfl, by kernel_rfl, rfl, rfl⟩
theorem ok_79 : Ok Try.prog 79 (Try.f79.body.getD .skip) Try.f79.ntmps Try.f79.results.toList := ⟨Try.f79, by kernel_rfl, by kernel_rfl, by kernel_rfl, by kernel_rfl, rfl, rfl⟩
theorem ok_80 : Ok Try.prog 80 (Try.f80.body.getD .skip) Try.f80.ntmps Try.f80.results.toList := ⟨Try.f80, by kernel_rfl, by kernel_rfl, by kernel_rfl, by kernel_rfl, rfl, rfl⟩
theorem ok_81 : Ok Try.prog 81 (Try.f81.body.getD .skip) Try.f81.ntmps Try.f81.results.toList := ⟨Try.f81, by kernel_rfl, by kernel_rfl, by kernel_rfl, by kernel_rfl, rfl, rfl⟩
theorem ok_82 : Ok Try.prog 82 (Try.f82.body.getD .skip) Try.f82.ntmps Try.f82.results.toList := ⟨Try.f82, by kernel_rfl, by kernel_rfl, by kernel_rfl, by kernel_rfl, rfl, rfl⟩
theorem ok_83 : Ok Try.prog 83 (Try.f83.body.getD .skip) Try.f83.ntmps Try.f83.results.toList := ⟨Try.f83, by kernel_rfl, by kernel_rfl, by kernel_rfl, by kernel_rfl, rfl, rfl⟩
theorem ok_95 : Ok Try.prog 95 (Try.f95.body.getD .skip) Try.f95.ntmps Try.f95.results.toList := ⟨Try.f95, by kernel_rfl, by kernel_rfl, by kernel_rfl, by kernel_rfl, rfl, rfl⟩
theorem ok_96 : Ok Try.prog 96 (Try.f96.body.getD .skip) Try.f96.ntmps Try.f96.results.toList := ⟨Try.f96, by kernel_rfl, by kernel_rfl, by kernel_rfl, by kernel_rfl, rfl, rfl⟩
theorem ok_97 : Ok Try.prog 97 (Try.f97.body.getD .skip) Try.f97.ntmps Try.f97.results.toList := ⟨Try.f97, by kernel_rfl, by kernel_rfl, by kernel_rfl, by kernel_rfl, rfl, rfl⟩
theorem ok_98 : Ok Try.prog 98 (Try.f98.body.getD .skip) Try.f98.ntmps Try.f98.results.toList := ⟨Try.f98, by kernel_rfl, by kernel_rfl, by kernel_rfl, by kernel_rfl, rfl, rfl⟩
theorem ok_102 : Ok Try.prog 102 (Try.f102.body.getD .skip) Try.f102.ntmps Try.f102.results.toList := ⟨Try.f102, by kernel_rfl, by kernel_rfl, by kernel_rfl, by kernel_rfl, rfl, rfl⟩
theorem ok_103 : Ok Try.prog 103 (Try.f103.body.getD .skip) Try.f103.ntmps Try.f103.results.toList := ⟨Try.f103, by kernel_rfl, by kernel_rfl, by kernel_rfl, by kernel_rfl, rfl, rfl⟩
theorem ok_104 : Ok Try.prog 104 (Try.f104.body.getD .skip) Try.f104.ntmps Try.f104.results.toList := ⟨Try.f104, by kernel_rfl, by kernel_rfl, by kernel_rfl, by kernel_rfl, rfl, rfl⟩
end Go.Am
end
