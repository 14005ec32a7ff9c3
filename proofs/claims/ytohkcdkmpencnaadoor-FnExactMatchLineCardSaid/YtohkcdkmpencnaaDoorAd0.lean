/- The data. -/
import Derived.Test.YtohkcdkmpencnaaDoorAm6
import Derived.WalkKit
import Derived.Test.YtohkcdkmpencnaaDoorProg
section
set_option maxRecDepth 100000
set_option linter.unusedVariables false
set_option linter.unusedSimpArgs false
namespace Go.Am
def tynB (k : Int) : Option ByteArray := if k = 0 then some ⟨#[]⟩ else if k = 1 then some ⟨#[115, 116, 114, 105, 110, 103]⟩ else if k = 2 then some ⟨#[105, 110, 116, 101, 103, 101, 114]⟩ else if k = 3 then some ⟨#[112, 97, 116, 116, 101, 114, 110]⟩ else if k = 4 then some ⟨#[97, 114, 114, 97, 121]⟩ else if k = 5 then some ⟨#[116, 97, 98, 108, 101]⟩ else if k = 6 then some ⟨#[114, 101, 99, 111, 114, 100]⟩ else if k = 7 then some ⟨#[110, 97, 109, 101]⟩ else if k = 8 then some ⟨#[101, 120, 112, 114, 101, 115, 115, 105, 111, 110]⟩ else none
end Go.Am
namespace Go.Proofs
open Go.Shelf Go.RowKit
def Tryd.laysM173_ren : Go.Shelf.Ren := ⟨fun | 173 => 58 | 246 => 91 | 283 => 114 | 284 => 115 | 285 => 116 | 286 => 117 | 129 => 136 | 317 => 135 | 318 => 137 | 319 => 138 | 320 => 139 | 337 => 154 | 338 => 155 | n => n, fun | 2 => 2 | 3 => 3 | 9 => 9 | 4 => 4 | 171 => 163 | 0 => 0 | 53 => 106 | 37 => 22 | 5 => 5 | 173 => 166 | 212 => 205 | 51 => 206 | 20 => 20 | 213 => 207 | 46 => 143 | 232 => 231 | 233 => 232 | n => n, fun | 17 => 0 | 18 => 1 | 19 => 2 | n => n⟩
theorem Tryd.laysM173 : LaysM.n173 Tryd.prog Tryd.laysM173_ren := {
 mixed := by kernel_rfl,
 f129 := Tryd.func136.trans (congrArg some (by kernel_rfl)),
 f173 := Tryd.func58.trans (congrArg some (by kernel_rfl)),
 f246 := Tryd.func91.trans (congrArg some (by kernel_rfl)),
 f283 := Tryd.func114.trans (congrArg some (by kernel_rfl)),
 f284 := Tryd.func115.trans (congrArg some (by kernel_rfl)),
 f285 := Tryd.func116.trans (congrArg some (by kernel_rfl)),
 f286 := Tryd.func117.trans (congrArg some (by kernel_rfl)),
 f317 := Tryd.func135.trans (congrArg some (by kernel_rfl)),
 f318 := Tryd.func137.trans (congrArg some (by kernel_rfl)),
 f319 := Tryd.func138.trans (congrArg some (by kernel_rfl)),
 f320 := Tryd.func139.trans (congrArg some (by kernel_rfl)),
 f337 := Tryd.func154.trans (congrArg some (by kernel_rfl)),
 f338 := Tryd.func155.trans (congrArg some (by kernel_rfl)),
 t0 := Tryd.underlying0,
 a0 := Tryd.isAgg0,
 z0 := Tryd.sizeOf0,
 v0 := Tryd.zeroValue0,
 t2 := Tryd.underlying2,
 a2 := Tryd.isAgg2,
 z2 := Tryd.sizeOf2,
 v2 := Tryd.zeroValue2,
 t3 := Tryd.underlying3,
 a3 := Tryd.isAgg3,
 z3 := Tryd.sizeOf3,
 v3 := Tryd.zeroValue3,
 t4 := Tryd.underlying4,
 a4 := Tryd.isAgg4,
 z4 := Tryd.sizeOf4,
 v4 := Tryd.zeroValue4,
 t5 := Tryd.underlying5,
 a5 := Tryd.isAgg5,
 z5 := Tryd.sizeOf5,
 v5 := Tryd.zeroValue5,
 t9 := Tryd.underlying9,
 a9 := Tryd.isAgg9,
 z9 := Tryd.sizeOf9,
 v9 := Tryd.zeroValue9,
 t20 := Tryd.underlying20,
 a20 := Tryd.isAgg20,
 z20 := Tryd.sizeOf20,
 v20 := Tryd.zeroValue20,
 t37 := Tryd.underlying22,
 a37 := Tryd.isAgg22,
 z37 := Tryd.sizeOf22,
 v37 := Tryd.zeroValue22,
 t46 := Tryd.underlying143,
 a46 := Tryd.isAgg143,
 z46 := Tryd.sizeOf143,
 v46 := Tryd.zeroValue143,
 t51 := Tryd.underlying206,
 a51 := Tryd.isAgg206,
 z51 := Tryd.sizeOf206,
 v51 := Tryd.zeroValue206,
 t53 := Tryd.underlying106,
 a53 := Tryd.isAgg106,
 z53 := Tryd.sizeOf106,
 v53 := Tryd.zeroValue106,
 t171 := Tryd.underlying163,
 a171 := Tryd.isAgg163,
 z171 := Tryd.sizeOf163,
 v171 := Tryd.zeroValue163,
 t173 := Tryd.underlying166,
 a173 := Tryd.isAgg166,
 z173 := Tryd.sizeOf166,
 v173 := Tryd.zeroValue166,
 t212 := Tryd.underlying205,
 a212 := Tryd.isAgg205,
 z212 := Tryd.sizeOf205,
 v212 := Tryd.zeroValue205,
 t213 := Tryd.underlying207,
 a213 := Tryd.isAgg207,
 z213 := Tryd.sizeOf207,
 t232 := Tryd.underlying231,
 a232 := Tryd.isAgg231,
 z232 := Tryd.sizeOf231,
 v232 := Tryd.zeroValue231,
 t233 := Tryd.underlying232,
 a233 := Tryd.isAgg232,
 z233 := Tryd.sizeOf232,
 v233 := Tryd.zeroValue232,
 g17 := by kernel_rfl,
 g18 := by kernel_rfl,
 g19 := by kernel_rfl,
 i0 := by kernel_rfl,
 i2 := by kernel_rfl,
 i3 := by kernel_rfl,
 i4 := by kernel_rfl,
 i5 := by kernel_rfl,
 i9 := by kernel_rfl,
 i20 := by kernel_rfl,
 i37 := by kernel_rfl,
 i46 := by kernel_rfl,
 i51 := by kernel_rfl,
 i53 := by kernel_rfl,
 i171 := by kernel_rfl,
 i173 := by kernel_rfl,
 i212 := by kernel_rfl,
 i232 := by kernel_rfl,
 i233 := by kernel_rfl,
 m17 := by kernel_rfl,
 m18 := by kernel_rfl,
 m19 := by kernel_rfl }
def Tryd.lays155_ren : Go.Shelf.Ren := ⟨fun | 155 => 92 | 154 => 118 | 138 => 140 | 165 => 141 | 143 => 142 | 166 => 143 | 197 => 144 | 169 => 145 | 195 => 156 | 218 => 157 | 240 => 158 | 241 => 159 | 219 => 160 | 260 => 161 | 276 => 162 | 277 => 163 | 217 => 164 | 225 => 165 | 224 => 166 | 267 => 167 | 266 => 168 | 314 => 169 | n => n, fun | 9 => 9 | 3 => 3 | 4 => 4 | 72 => 213 | 0 => 0 | 76 => 217 | 105 => 219 | 21 => 21 | 5 => 5 | 70 => 211 | 20 => 20 | 37 => 22 | 75 => 216 | 127 => 230 | 164 => 233 | 46 => 143 | 119 => 236 | 139 => 239 | 138 => 238 | 146 => 240 | 51 => 206 | 80 => 92 | n => n, fun | 1 => 3 | 3 => 4 | 4 => 5 | n => n⟩
theorem Tryd.lays155 : Lays.n155 Tryd.prog Tryd.lays155_ren := {
 mixed := by kernel_rfl,
 f138 := Tryd.func140.trans (congrArg some (by kernel_rfl)),
 f143 := Tryd.func142.trans (congrArg some (by kernel_rfl)),
 f154 := Tryd.func118.trans (congrArg some (by kernel_rfl)),
 f155 := Tryd.func92.trans (congrArg some (by kernel_rfl)),
 f165 := Tryd.func141.trans (congrArg some (by kernel_rfl)),
 f166 := Tryd.func143.trans (congrArg some (by kernel_rfl)),
 f169 := Tryd.func145.trans (congrArg some (by kernel_rfl)),
 f195 := Tryd.func156.trans (congrArg some (by kernel_rfl)),
 f197 := Tryd.func144.trans (congrArg some (by kernel_rfl)),
 f217 := Tryd.func164.trans (congrArg some (by kernel_rfl)),
 f218 := Tryd.func157.trans (congrArg some (by kernel_rfl)),
 f219 := Tryd.func160.trans (congrArg some (by kernel_rfl)),
 f224 := Tryd.func166.trans (congrArg some (by kernel_rfl)),
 f225 := Tryd.func165.trans (congrArg some (by kernel_rfl)),
 f240 := Tryd.func158.trans (congrArg some (by kernel_rfl)),
 f241 := Tryd.func159.trans (congrArg some (by kernel_rfl)),
 f260 := Tryd.func161.trans (congrArg some (by kernel_rfl)),
 f266 := Tryd.func168.trans (congrArg some (by kernel_rfl)),
 f267 := Tryd.func167.trans (congrArg some (by kernel_rfl)),
 f276 := Tryd.func162.trans (congrArg some (by kernel_rfl)),
 f277 := Tryd.func163.trans (congrArg some (by kernel_rfl)),
 f314 := Tryd.func169.trans (congrArg some (by kernel_rfl)),
 t0 := Tryd.underlying0,
 a0 := Tryd.isAgg0,
 z0 := Tryd.sizeOf0,
 v0 := Tryd.zeroValue0,
 t3 := Tryd.underlying3,
 a3 := Tryd.isAgg3,
 z3 := Tryd.sizeOf3,
 v3 := Tryd.zeroValue3,
 t4 := Tryd.underlying4,
 a4 := Tryd.isAgg4,
 z4 := Tryd.sizeOf4,
 v4 := Tryd.zeroValue4,
 t5 := Tryd.underlying5,
 a5 := Tryd.isAgg5,
 z5 := Tryd.sizeOf5,
 v5 := Tryd.zeroValue5,
 t9 := Tryd.underlying9,
 a9 := Tryd.isAgg9,
 z9 := Tryd.sizeOf9,
 v9 := Tryd.zeroValue9,
 t20 := Tryd.underlying20,
 a20 := Tryd.isAgg20,
 z20 := Tryd.sizeOf20,
 v20 := Tryd.zeroValue20,
 t21 := Tryd.underlying21,
 a21 := Tryd.isAgg21,
 z21 := Tryd.sizeOf21,
 v21 := Tryd.zeroValue21,
 t37 := Tryd.underlying22,
 a37 := Tryd.isAgg22,
 z37 := Tryd.sizeOf22,
 v37 := Tryd.zeroValue22,
 t46 := Tryd.underlying143,
 a46 := Tryd.isAgg143,
 z46 := Tryd.sizeOf143,
 v46 := Tryd.zeroValue143,
 t51 := Tryd.underlying206,
 a51 := Tryd.isAgg206,
 z51 := Tryd.sizeOf206,
 v51 := Tryd.zeroValue206,
 t70 := Tryd.underlying211,
 a70 := Tryd.isAgg211,
 z70 := Tryd.sizeOf211,
 v70 := Tryd.zeroValue211,
 t72 := Tryd.underlying213,
 a72 := Tryd.isAgg213,
 z72 := Tryd.sizeOf213,
 v72 := Tryd.zeroValue213,
 t75 := Tryd.underlying216,
 a75 := Tryd.isAgg216,
 z75 := Tryd.sizeOf216,
 v75 := Tryd.zeroValue216,
 t76 := Tryd.underlying217,
 a76 := Tryd.isAgg217,
 z76 := Tryd.sizeOf217,
 v76 := Tryd.zeroValue217,
 t105 := Tryd.underlying219,
 a105 := Tryd.isAgg219,
 z105 := Tryd.sizeOf219,
 v105 := Tryd.zeroValue219,
 t119 := Tryd.underlying236,
 a119 := Tryd.isAgg236,
 z119 := Tryd.sizeOf236,
 t127 := Tryd.underlying230,
 a127 := Tryd.isAgg230,
 z127 := Tryd.sizeOf230,
 v127 := Tryd.zeroValue230,
 t138 := Tryd.underlying238,
 a138 := Tryd.isAgg238,
 z138 := Tryd.sizeOf238,
 v138 := Tryd.zeroValue238,
 t139 := Tryd.underlying239,
 a139 := Tryd.isAgg239,
 z139 := Tryd.sizeOf239,
 v139 := Tryd.zeroValue239,
 t146 := Tryd.underlying240,
 a146 := Tryd.isAgg240,
 z146 := Tryd.sizeOf240,
 v146 := Tryd.zeroValue240,
 t164 := Tryd.underlying233,
 a164 := Tryd.isAgg233,
 z164 := Tryd.sizeOf233,
 v164 := Tryd.zeroValue233,
 g1 := by kernel_rfl,
 g3 := by kernel_rfl,
 g4 := by kernel_rfl }
theorem Tryd.bx155 : Builder.Extra Tryd.prog Tryd.lays155_ren := { sizeBuilder := by kernel_rfl, liesBuilder := by kernel_rfl, t5 := Tryd.underlying5, a5 := Tryd.isAgg5, z5 := Tryd.sizeOf5, v5 := Tryd.zeroValue5, infoByte := by kernel_rfl, cellsByte := by kernel_rfl, sizeByte := by kernel_rfl, neB5 := by decide }
theorem Tryd.tyn0 (w : World) : Calls Tryd.prog 60 #[.int .i64 0] w fun e w' => e = .returned (.string ⟨#[]⟩) ∧ Below w.heap.size w w' := by
 go_enter Tryd.func60, Tryd.ntmps60
 go_wp2
 go_ret
 exact ⟨rfl, Below.alloc (Below.refl _ _) (Nat.le_refl _) _⟩
theorem Tryd.tyn1 (w : World) : Calls Tryd.prog 60 #[.int .i64 1] w fun e w' => e = .returned (.string ⟨#[115, 116, 114, 105, 110, 103]⟩) ∧ Below w.heap.size w w' := by
 go_enter Tryd.func60, Tryd.ntmps60
 go_wp2
 go_ret
 exact ⟨rfl, Below.alloc (Below.refl _ _) (Nat.le_refl _) _⟩
theorem Tryd.tyn2 (w : World) : Calls Tryd.prog 60 #[.int .i64 2] w fun e w' => e = .returned (.string ⟨#[105, 110, 116, 101, 103, 101, 114]⟩) ∧ Below w.heap.size w w' := by
 go_enter Tryd.func60, Tryd.ntmps60
 go_wp2
 go_ret
 exact ⟨rfl, Below.alloc (Below.refl _ _) (Nat.le_refl _) _⟩
theorem Tryd.tyn3 (w : World) : Calls Tryd.prog 60 #[.int .i64 3] w fun e w' => e = .returned (.string ⟨#[112, 97, 116, 116, 101, 114, 110]⟩) ∧ Below w.heap.size w w' := by
 go_enter Tryd.func60, Tryd.ntmps60
 go_wp2
 go_ret
 exact ⟨rfl, Below.alloc (Below.refl _ _) (Nat.le_refl _) _⟩
theorem Tryd.tyn4 (w : World) : Calls Tryd.prog 60 #[.int .i64 4] w fun e w' => e = .returned (.string ⟨#[97, 114, 114, 97, 121]⟩) ∧ Below w.heap.size w w' := by
 go_enter Tryd.func60, Tryd.ntmps60
 go_wp2
 go_ret
 exact ⟨rfl, Below.alloc (Below.refl _ _) (Nat.le_refl _) _⟩
theorem Tryd.tyn5 (w : World) : Calls Tryd.prog 60 #[.int .i64 5] w fun e w' => e = .returned (.string ⟨#[116, 97, 98, 108, 101]⟩) ∧ Below w.heap.size w w' := by
 go_enter Tryd.func60, Tryd.ntmps60
 go_wp2
 go_ret
 exact ⟨rfl, Below.alloc (Below.refl _ _) (Nat.le_refl _) _⟩
theorem Tryd.tyn6 (w : World) : Calls Tryd.prog 60 #[.int .i64 6] w fun e w' => e = .returned (.string ⟨#[114, 101, 99, 111, 114, 100]⟩) ∧ Below w.heap.size w w' := by
 go_enter Tryd.func60, Tryd.ntmps60
 go_wp2
 go_ret
 exact ⟨rfl, Below.alloc (Below.refl _ _) (Nat.le_refl _) _⟩
theorem Tryd.tyn7 (w : World) : Calls Tryd.prog 60 #[.int .i64 7] w fun e w' => e = .returned (.string ⟨#[110, 97, 109, 101]⟩) ∧ Below w.heap.size w w' := by
 go_enter Tryd.func60, Tryd.ntmps60
 go_wp2
 go_ret
 exact ⟨rfl, Below.alloc (Below.refl _ _) (Nat.le_refl _) _⟩
theorem Tryd.tyn8 (w : World) : Calls Tryd.prog 60 #[.int .i64 8] w fun e w' => e = .returned (.string ⟨#[101, 120, 112, 114, 101, 115, 115, 105, 111, 110]⟩) ∧ Below w.heap.size w w' := by
 go_enter Tryd.func60, Tryd.ntmps60
 go_wp2
 go_ret
 exact ⟨rfl, Below.alloc (Below.refl _ _) (Nat.le_refl _) _⟩
theorem Tryd.tyn (k : Int) (s : ByteArray) (w : World) (h : Go.Am.tynB k = some s) : Calls Tryd.prog 60 #[.int .i64 k] w fun e w' => e = .returned (.string s) ∧ Below w.heap.size w w' := by
 unfold Go.Am.tynB at h
 by_cases c0 : k = 0
 · subst c0; have h : some (⟨#[]⟩ : ByteArray) = some s := h; injection h with h; subst h; exact Tryd.tyn0 w
 rw [if_neg c0] at h
 by_cases c1 : k = 1
 · subst c1; have h : some (⟨#[115, 116, 114, 105, 110, 103]⟩ : ByteArray) = some s := h; injection h with h; subst h; exact Tryd.tyn1 w
 rw [if_neg c1] at h
 by_cases c2 : k = 2
 · subst c2; have h : some (⟨#[105, 110, 116, 101, 103, 101, 114]⟩ : ByteArray) = some s := h; injection h with h; subst h; exact Tryd.tyn2 w
 rw [if_neg c2] at h
 by_cases c3 : k = 3
 · subst c3; have h : some (⟨#[112, 97, 116, 116, 101, 114, 110]⟩ : ByteArray) = some s := h; injection h with h; subst h; exact Tryd.tyn3 w
 rw [if_neg c3] at h
 by_cases c4 : k = 4
 · subst c4; have h : some (⟨#[97, 114, 114, 97, 121]⟩ : ByteArray) = some s := h; injection h with h; subst h; exact Tryd.tyn4 w
 rw [if_neg c4] at h
 by_cases c5 : k = 5
 · subst c5; have h : some (⟨#[116, 97, 98, 108, 101]⟩ : ByteArray) = some s := h; injection h with h; subst h; exact Tryd.tyn5 w
 rw [if_neg c5] at h
 by_cases c6 : k = 6
 · subst c6; have h : some (⟨#[114, 101, 99, 111, 114, 100]⟩ : ByteArray) = some s := h; injection h with h; subst h; exact Tryd.tyn6 w
 rw [if_neg c6] at h
 by_cases c7 : k = 7
 · subst c7; have h : some (⟨#[110, 97, 109, 101]⟩ : ByteArray) = some s := h; injection h with h; subst h; exact Tryd.tyn7 w
 rw [if_neg c7] at h
 by_cases c8 : k = 8
 · subst c8; have h : some (⟨#[101, 120, 112, 114, 101, 115, 115, 105, 111, 110]⟩ : ByteArray) = some s := h; injection h with h; subst h; exact Tryd.tyn8 w
 rw [if_neg c8] at h
 cases h
end Go.Proofs
namespace Go.Am
open Go.Proofs
structure DValue where
  Kind : Int
  Num : Int
  Text : ByteArray
  Ref : Int
def DValue.cells (x : DValue) : List T := [i4 x.Kind, i4 x.Num, .str x.Text, i4 x.Ref]
instance : Enc DValue := ⟨DValue.cells, 4, fun _ => rfl, fun _ => rfl, fun x => by simp [DValue.cells, pureL, pureT], fun a b h => by
  rcases a with ⟨_, _, _, _⟩; rcases b with ⟨_, _, _, _⟩; simp [DValue.cells] at h; simp_all⟩
instance : Lit DValue := ⟨fun x => [i4 x.Kind, i4 x.Num, .str x.Text, i4 x.Ref], fun _ => rfl⟩
instance (z : Bool) : Hld z DValue := ⟨fun a σ d => by show frzL (hold z σ d) (DValue.cells a) = some (DValue.cells a, []); simp [DValue.cells, frzL]⟩
structure DFile where
  Name : ByteArray
  Lines : (Sl ByteArray)
  Mode : Int
  At : Int
def DFile.cells (x : DFile) : List T := [.str x.Name, x.Lines.t, i4 x.Mode, i4 x.At]
instance : Enc DFile := ⟨DFile.cells, 4, fun _ => rfl, fun _ => rfl, fun x => by simp [DFile.cells, pureL, pureT], fun a b h => by
  rcases a with ⟨_, _, _, _⟩; rcases b with ⟨_, _, _, _⟩; simp [DFile.cells] at h; simp_all⟩
instance : Lit DFile := ⟨fun x => [.str x.Name, x.Lines.t, i4 x.Mode, i4 x.At], fun _ => rfl⟩
instance : Hld false DFile := ⟨fun a σ d => by show frzL (hold false σ d) (DFile.cells a) = some (DFile.cells a, []); simp [DFile.cells, frzL]⟩
structure DConsole where
  Input : (Sl ByteArray)
  At : Int
  Output : (Sl ByteArray)
  Files : (Sl DFile)
  Trace : (Sl ByteArray)
def DConsole.cells (x : DConsole) : List T := [x.Input.t, i4 x.At, x.Output.t, x.Files.t, x.Trace.t]
instance : Enc DConsole := ⟨DConsole.cells, 5, fun _ => rfl, fun _ => rfl, fun x => by simp [DConsole.cells, pureL, pureT], fun a b h => by
  rcases a with ⟨_, _, _, _, _⟩; rcases b with ⟨_, _, _, _, _⟩; simp [DConsole.cells] at h; simp_all⟩
instance : Lit DConsole := ⟨fun x => [x.Input.t, i4 x.At, x.Output.t, x.Files.t, x.Trace.t], fun _ => rfl⟩
instance : Hld false DConsole := ⟨fun a σ d => by show frzL (hold false σ d) (DConsole.cells a) = some (DConsole.cells a, []); simp [DConsole.cells, frzL]⟩
structure DCapture where
  Name : ByteArray
  Text : ByteArray
  Cursor : Int
  Kind : Int
def DCapture.cells (x : DCapture) : List T := [.str x.Name, .str x.Text, i4 x.Cursor, i4 x.Kind]
instance : Enc DCapture := ⟨DCapture.cells, 4, fun _ => rfl, fun _ => rfl, fun x => by simp [DCapture.cells, pureL, pureT], fun a b h => by
  rcases a with ⟨_, _, _, _⟩; rcases b with ⟨_, _, _, _⟩; simp [DCapture.cells] at h; simp_all⟩
instance : Lit DCapture := ⟨fun x => [.str x.Name, .str x.Text, i4 x.Cursor, i4 x.Kind], fun _ => rfl⟩
instance (z : Bool) : Hld z DCapture := ⟨fun a σ d => by show frzL (hold z σ d) (DCapture.cells a) = some (DCapture.cells a, []); simp [DCapture.cells, frzL]⟩
structure DMatch where
  Start : Int
  End : Int
  Captures : (Sl DCapture)
def DMatch.cells (x : DMatch) : List T := [i4 x.Start, i4 x.End, x.Captures.t]
instance : Enc DMatch := ⟨DMatch.cells, 3, fun _ => rfl, fun _ => rfl, fun x => by simp [DMatch.cells, pureL, pureT], fun a b h => by
  rcases a with ⟨_, _, _⟩; rcases b with ⟨_, _, _⟩; simp [DMatch.cells] at h; simp_all⟩
instance : Lit DMatch := ⟨fun x => [i4 x.Start, i4 x.End, x.Captures.t], fun _ => rfl⟩
instance : Hld false DMatch := ⟨fun a σ d => by show frzL (hold false σ d) (DMatch.cells a) = some (DMatch.cells a, []); simp [DMatch.cells, frzL]⟩
structure DObject where
  Id : Int
  Kind : Int
  Name : ByteArray
  Low : Int
  Keys : (Sl DValue)
  Vals : (Sl DValue)
  Default : DValue
def DObject.cells (x : DObject) : List T := [i4 x.Id, i4 x.Kind, .str x.Name, i4 x.Low, x.Keys.t, x.Vals.t, i4 x.Default.Kind, i4 x.Default.Num, .str x.Default.Text, i4 x.Default.Ref]
instance : Enc DObject := ⟨DObject.cells, 10, fun _ => rfl, fun _ => rfl, fun x => by simp [DObject.cells, pureL, pureT], fun a b h => by
  rcases a with ⟨_, _, _, _, _, _, ⟨_, _, _, _⟩⟩; rcases b with ⟨_, _, _, _, _, _, ⟨_, _, _, _⟩⟩; simp [DObject.cells] at h; simp_all⟩
instance : Lit DObject := ⟨fun x => [i4 x.Id, i4 x.Kind, .str x.Name, i4 x.Low, x.Keys.t, x.Vals.t, i4 x.Default.Kind, i4 x.Default.Num, .str x.Default.Text, i4 x.Default.Ref], fun _ => rfl⟩
instance : Hld false DObject := ⟨fun a σ d => by show frzL (hold false σ d) (DObject.cells a) = some (DObject.cells a, []); simp [DObject.cells, frzL]⟩
structure DHeap where
  Next : Int
  Objects : (Sl DObject)
def DHeap.cells (x : DHeap) : List T := [i4 x.Next, x.Objects.t]
instance : Enc DHeap := ⟨DHeap.cells, 2, fun _ => rfl, fun _ => rfl, fun x => by simp [DHeap.cells, pureL, pureT], fun a b h => by
  rcases a with ⟨_, _⟩; rcases b with ⟨_, _⟩; simp [DHeap.cells] at h; simp_all⟩
instance : Lit DHeap := ⟨fun x => [i4 x.Next, x.Objects.t], fun _ => rfl⟩
instance : Hld false DHeap := ⟨fun a σ d => by show frzL (hold false σ d) (DHeap.cells a) = some (DHeap.cells a, []); simp [DHeap.cells, frzL]⟩
structure DBinding where
  Name : ByteArray
  Value : DValue
def DBinding.cells (x : DBinding) : List T := [.str x.Name, i4 x.Value.Kind, i4 x.Value.Num, .str x.Value.Text, i4 x.Value.Ref]
instance : Enc DBinding := ⟨DBinding.cells, 5, fun _ => rfl, fun _ => rfl, fun x => by simp [DBinding.cells, pureL, pureT], fun a b h => by
  rcases a with ⟨_, ⟨_, _, _, _⟩⟩; rcases b with ⟨_, ⟨_, _, _, _⟩⟩; simp [DBinding.cells] at h; simp_all⟩
instance : Lit DBinding := ⟨fun x => [.str x.Name, i4 x.Value.Kind, i4 x.Value.Num, .str x.Value.Text, i4 x.Value.Ref], fun _ => rfl⟩
instance (z : Bool) : Hld z DBinding := ⟨fun a σ d => by show frzL (hold z σ d) (DBinding.cells a) = some (DBinding.cells a, []); simp [DBinding.cells, frzL]⟩
structure DFunction where
  Name : ByteArray
  Params : (Sl ByteArray)
  Locals : (Sl ByteArray)
  Label : ByteArray
def DFunction.cells (x : DFunction) : List T := [.str x.Name, x.Params.t, x.Locals.t, .str x.Label]
instance : Enc DFunction := ⟨DFunction.cells, 4, fun _ => rfl, fun _ => rfl, fun x => by simp [DFunction.cells, pureL, pureT], fun a b h => by
  rcases a with ⟨_, _, _, _⟩; rcases b with ⟨_, _, _, _⟩; simp [DFunction.cells] at h; simp_all⟩
instance : Lit DFunction := ⟨fun x => [.str x.Name, x.Params.t, x.Locals.t, .str x.Label], fun _ => rfl⟩
instance : Hld false DFunction := ⟨fun a σ d => by show frzL (hold false σ d) (DFunction.cells a) = some (DFunction.cells a, []); simp [DFunction.cells, frzL]⟩
structure DRecordType where
  Name : ByteArray
  Fields : (Sl ByteArray)
def DRecordType.cells (x : DRecordType) : List T := [.str x.Name, x.Fields.t]
instance : Enc DRecordType := ⟨DRecordType.cells, 2, fun _ => rfl, fun _ => rfl, fun x => by simp [DRecordType.cells, pureL, pureT], fun a b h => by
  rcases a with ⟨_, _⟩; rcases b with ⟨_, _⟩; simp [DRecordType.cells] at h; simp_all⟩
instance : Lit DRecordType := ⟨fun x => [.str x.Name, x.Fields.t], fun _ => rfl⟩
instance : Hld false DRecordType := ⟨fun a σ d => by show frzL (hold false σ d) (DRecordType.cells a) = some (DRecordType.cells a, []); simp [DRecordType.cells, frzL]⟩
structure DScope where
  Vars : (Sl DBinding)
  Functions : (Sl DFunction)
  Types : (Sl DRecordType)
def DScope.cells (x : DScope) : List T := [x.Vars.t, x.Functions.t, x.Types.t]
instance : Enc DScope := ⟨DScope.cells, 3, fun _ => rfl, fun _ => rfl, fun x => by simp [DScope.cells, pureL, pureT], fun a b h => by
  rcases a with ⟨_, _, _⟩; rcases b with ⟨_, _, _⟩; simp [DScope.cells] at h; simp_all⟩
instance : Lit DScope := ⟨fun x => [x.Vars.t, x.Functions.t, x.Types.t], fun _ => rfl⟩
instance : Hld false DScope := ⟨fun a σ d => by show frzL (hold false σ d) (DScope.cells a) = some (DScope.cells a, []); simp [DScope.cells, frzL]⟩
structure DMemory where
  Heap : DHeap
  Scope : DScope
  Console : DConsole
def DMemory.cells (x : DMemory) : List T := [i4 x.Heap.Next, x.Heap.Objects.t, x.Scope.Vars.t, x.Scope.Functions.t, x.Scope.Types.t, x.Console.Input.t, i4 x.Console.At, x.Console.Output.t, x.Console.Files.t, x.Console.Trace.t]
instance : Enc DMemory := ⟨DMemory.cells, 10, fun _ => rfl, fun _ => rfl, fun x => by simp [DMemory.cells, pureL, pureT], fun a b h => by
  rcases a with ⟨⟨_, _⟩, ⟨_, _, _⟩, ⟨_, _, _, _, _⟩⟩; rcases b with ⟨⟨_, _⟩, ⟨_, _, _⟩, ⟨_, _, _, _, _⟩⟩; simp [DMemory.cells] at h; simp_all⟩
instance : Lit DMemory := ⟨fun x => [i4 x.Heap.Next, x.Heap.Objects.t, x.Scope.Vars.t, x.Scope.Functions.t, x.Scope.Types.t, x.Console.Input.t, i4 x.Console.At, x.Console.Output.t, x.Console.Files.t, x.Console.Trace.t], fun _ => rfl⟩
instance : Hld false DMemory := ⟨fun a σ d => by show frzL (hold false σ d) (DMemory.cells a) = some (DMemory.cells a, []); simp [DMemory.cells, frzL]⟩
structure DOutcome where
  Memory : DMemory
  At : Int
  Steps : Int
  Code : Int
def DOutcome.cells (x : DOutcome) : List T := [i4 x.Memory.Heap.Next, x.Memory.Heap.Objects.t, x.Memory.Scope.Vars.t, x.Memory.Scope.Functions.t, x.Memory.Scope.Types.t, x.Memory.Console.Input.t, i4 x.Memory.Console.At, x.Memory.Console.Output.t, x.Memory.Console.Files.t, x.Memory.Console.Trace.t, i4 x.At, i4 x.Steps, i4 x.Code]
instance : Enc DOutcome := ⟨DOutcome.cells, 13, fun _ => rfl, fun _ => rfl, fun x => by simp [DOutcome.cells, pureL, pureT], fun a b h => by
  rcases a with ⟨⟨⟨_, _⟩, ⟨_, _, _⟩, ⟨_, _, _, _, _⟩⟩, _, _, _⟩; rcases b with ⟨⟨⟨_, _⟩, ⟨_, _, _⟩, ⟨_, _, _, _, _⟩⟩, _, _, _⟩; simp [DOutcome.cells] at h; simp_all⟩
instance : Lit DOutcome := ⟨fun x => [i4 x.Memory.Heap.Next, x.Memory.Heap.Objects.t, x.Memory.Scope.Vars.t, x.Memory.Scope.Functions.t, x.Memory.Scope.Types.t, x.Memory.Console.Input.t, i4 x.Memory.Console.At, x.Memory.Console.Output.t, x.Memory.Console.Files.t, x.Memory.Console.Trace.t, i4 x.At, i4 x.Steps, i4 x.Code], fun _ => rfl⟩
instance : Hld false DOutcome := ⟨fun a σ d => by show frzL (hold false σ d) (DOutcome.cells a) = some (DOutcome.cells a, []); simp [DOutcome.cells, frzL]⟩
structure DL00Src where
  code_ : (Sl (Iv .u8))
  at_ : Int
  seed_ : Int
def DL00Src.cells (x : DL00Src) : List T := [x.code_.t, i4 x.at_, .int .u64 x.seed_]
instance : Enc DL00Src := ⟨DL00Src.cells, 3, fun _ => rfl, fun _ => rfl, fun x => by simp [DL00Src.cells, pureL, pureT], fun a b h => by
  rcases a with ⟨_, _, _⟩; rcases b with ⟨_, _, _⟩; simp [DL00Src.cells] at h; simp_all⟩
instance : Lit DL00Src := ⟨fun x => [x.code_.t, i4 x.at_, .int .u64 x.seed_], fun _ => rfl⟩
instance : Hld false DL00Src := ⟨fun a σ d => by show frzL (hold false σ d) (DL00Src.cells a) = some (DL00Src.cells a, []); simp [DL00Src.cells, frzL]⟩
def md : Nat → Md := fun f => bif [14, 19, 34, 40, 45, 52, 68, 82, 83, 84, 101, 102, 103, 104, 105, 106, 125, 127, 128, 129, 150].elem f then .own else bif [22, 23, 24, 25, 26, 27, 35, 48, 49, 50, 51, 53, 58, 60, 89, 92, 113].elem f then .raw else .view
def ext : Ext := fun f => bif Nat.beq f 58 then some fmtE else bif Nat.beq f 60 then some (numE tynB) else bif Nat.beq f 92 then some repE else none
theorem len1 {hs : List T} (h : hs.length = 1) : ∃ a0, hs = [a0] := by
  rcases hs with _ | ⟨a0, _ | ⟨x, l⟩⟩ <;> simp at h
  exact ⟨a0, rfl⟩
def E_bool : Bool → T := fun y => .bool y
theorem E_bool_inj : ∀ a b, E_bool a = E_bool b → a = b := inj_bool
theorem E_bool_p : ∀ v, pureT (E_bool v) = true := fun v => by simp [pureT, pureL, E_bool]
def E_str : ByteArray → T := fun y => .str y
theorem E_str_inj : ∀ a b, E_str a = E_str b → a = b := inj_str
theorem E_str_p : ∀ v, pureT (E_str v) = true := fun v => by simp [pureT, pureL, E_str]
def E_i64 : Int → T := fun y => i4 y
theorem E_i64_inj : ∀ a b, E_i64 a = E_i64 b → a = b := inj_int
theorem E_i64_p : ∀ v, pureT (E_i64 v) = true := fun v => by simp [pureT, pureL, E_i64]
def E_DMatch : DMatch → T := fun y => .agg (DMatch.cells y)
theorem E_DMatch_inj : ∀ a b, E_DMatch a = E_DMatch b → a = b := inj_agg
def E_sl_DCapture : (Sl DCapture) → T := fun y => y.t
theorem E_sl_DCapture_inj : ∀ a b, E_sl_DCapture a = E_sl_DCapture b → a = b := inj_sl
def E_DCapture : DCapture → T := fun y => .agg (DCapture.cells y)
theorem E_DCapture_inj : ∀ a b, E_DCapture a = E_DCapture b → a = b := inj_agg
theorem E_DCapture_p : ∀ v, pureT (E_DCapture v) = true := fun v => by simp [pureT, pureL, E_DCapture, DCapture.cells]
noncomputable def Sh_DMatch : Shape DMatch := ⟨1, fun hs y => match hs with | [h1] => .agg [i4 y.Start, i4 y.End, h1] | _ => .tup [], fun hs y => match hs with | [h1] => [.own true 4 h1 (Sl.t (y.Captures : Sl DCapture))] | _ => [], E_DMatch, fun hs y h => by
  obtain ⟨h1, rfl⟩ := len1 h
  exact (HL.agg (es1 := [.own true 4 h1 (Sl.t (y.Captures : Sl DCapture))]) (es2 := []) (HL.leaf (fun σ d => by simp) (HL.leaf (fun σ d => by simp) (HL.own rfl HL.nil))) HL.nil), E_DMatch_inj⟩
noncomputable def Sh_sl_DCapture : Shape (Sl DCapture) := ⟨1, fun hs y => match hs with | [h1] => h1 | _ => .tup [], fun hs y => match hs with | [h1] => [.own true 4 h1 (Sl.t (y : Sl DCapture))] | _ => [], E_sl_DCapture, fun hs y h => by
  obtain ⟨h1, rfl⟩ := len1 h
  exact (HL.own rfl HL.nil), E_sl_DCapture_inj⟩
noncomputable def F_laws_FnExactMatchLine (a0 : DMatch) : Option Bool := semV Tryd.prog md ext E_bool 4 [(.agg (DMatch.cells a0))]
noncomputable def F_laws_szMatch (a0 : DMatch) (a1 : Int) : Option Int := semV Tryd.prog md ext E_i64 12 [(.agg (DMatch.cells a0)), (i4 a1)]
noncomputable def F_spec_MatchLine (a0 : DMatch) : Option ByteArray := semV Tryd.prog md ext E_str 13 [(.agg (DMatch.cells a0))]
noncomputable def F_laws_toMatch (a0 : DMatch) : Option DMatch := semO Tryd.prog md ext Sh_DMatch 14 [(.agg (DMatch.cells a0))]
noncomputable def F_impl_MatchLine (a0 : DMatch) : Option ByteArray := semV Tryd.prog md ext E_str 15 [(.agg (DMatch.cells a0))]
noncomputable def F_laws_eqMatch (a0 : DMatch) (a1 : DMatch) : Option Bool := semV Tryd.prog md ext E_bool 16 [(.agg (DMatch.cells a0)), (.agg (DMatch.cells a1))]
noncomputable def F_impl_decimal (a0 : Int) : Option ByteArray := semV Tryd.prog md ext E_str 31 [(i4 a0)]
noncomputable def F_laws_szCaptureS (a0 : (Sl DCapture)) (a1 : Int) : Option Int := semV Tryd.prog md ext E_i64 37 [(a0.t), (i4 a1)]
noncomputable def F_spec_l16Digits (a0 : Int) : Option ByteArray := semV Tryd.prog md ext E_str 38 [(i4 a0)]
noncomputable def F_spec_CaptureText (a0 : DCapture) : Option ByteArray := semV Tryd.prog md ext E_str 39 [(.agg (DCapture.cells a0))]
noncomputable def F_laws_toCaptureS (a0 : (Sl DCapture)) : Option (Sl DCapture) := semO Tryd.prog md ext Sh_sl_DCapture 40 [(a0.t)]
noncomputable def F_impl_CaptureText (a0 : DCapture) : Option ByteArray := semV Tryd.prog md ext E_str 41 [(.agg (DCapture.cells a0))]
noncomputable def F_laws_eqCaptureS (a0 : (Sl DCapture)) (a1 : (Sl DCapture)) : Option Bool := semV Tryd.prog md ext E_bool 42 [(a0.t), (a1.t)]
noncomputable def F_impl_QuoteText (a0 : ByteArray) : Option ByteArray := semV Tryd.prog md ext E_str 59 [(.str a0)]
noncomputable def F_laws_szCapture (a0 : DCapture) (a1 : Int) : Option Int := semV Tryd.prog md ext E_i64 72 [(.agg (DCapture.cells a0)), (i4 a1)]
noncomputable def F_spec_l16Below (a0 : Int) : Option ByteArray := semV Tryd.prog md ext E_str 73 [(i4 a0)]
noncomputable def F_spec_l11Digits (a0 : Int) : Option ByteArray := semV Tryd.prog md ext E_str 74 [(i4 a0)]
noncomputable def F_spec_l11Literal (a0 : ByteArray) : Option ByteArray := semV Tryd.prog md ext E_str 75 [(.str a0)]
noncomputable def F_laws_toCapture (a0 : DCapture) : Option DCapture := semV Tryd.prog md ext E_DCapture 76 [(.agg (DCapture.cells a0))]
noncomputable def F_laws_eqCapture (a0 : DCapture) (a1 : DCapture) : Option Bool := semV Tryd.prog md ext E_bool 77 [(.agg (DCapture.cells a0)), (.agg (DCapture.cells a1))]
theorem ext_x : XOk ext := by
 intro f g h1
 unfold ext at h1
 cases h58 : Nat.beq f 58 with
 | true => rw [h58] at h1; have h1 : some fmtE = some g := h1; injection h1 with h1; subst h1; exact fmt_x
 | false =>
 rw [h58] at h1
 simp only [cond_false] at h1
 cases h60 : Nat.beq f 60 with
 | true => rw [h60] at h1; have h1 : some (numE tynB) = some g := h1; injection h1 with h1; subst h1; exact (num_x tynB)
 | false =>
 rw [h60] at h1
 simp only [cond_false] at h1
 cases h92 : Nat.beq f 92 with
 | true => rw [h92] at h1; have h1 : some repE = some g := h1; injection h1 with h1; subst h1; exact rep_x
 | false =>
 rw [h92] at h1
 simp only [cond_false] at h1
 cases h1
noncomputable def F_strconv_FormatInt (a0 : Int) (a1 : Int) : Option ByteArray := semV Tryd.prog md ext E_str 58 [(i4 a0), (i4 a1)]
noncomputable def B_strconv_FormatInt (a0 : Int) (a1 : Int) : Option ByteArray := fmtB a0 a1
theorem u_strconv_FormatInt (a0 : Int) (a1 : Int) (r : ByteArray) (h : B_strconv_FormatInt a0 a1 = some r) : F_strconv_FormatInt a0 a1 = some r := sem_fmt E_str_inj rfl rfl h fun _ => rfl
noncomputable def F_strings_ReplaceAll (a0 : ByteArray) (a1 : ByteArray) (a2 : ByteArray) : Option ByteArray := semV Tryd.prog md ext E_str 92 [(.str a0), (.str a1), (.str a2)]
noncomputable def B_strings_ReplaceAll (a0 : ByteArray) (a1 : ByteArray) (a2 : ByteArray) : Option ByteArray := repB a0 a1 a2
theorem u_strings_ReplaceAll (a0 : ByteArray) (a1 : ByteArray) (a2 : ByteArray) (r : ByteArray) (h : B_strings_ReplaceAll a0 a1 a2 = some r) : F_strings_ReplaceAll a0 a1 a2 = some r := sem_rep E_str_inj rfl rfl h fun _ => rfl
theorem ext_ok : ∀ f g args σ r σ', ext f = some g → g args σ = some (r, σ') → SCall Tryd.prog f args σ r σ' := by
 intro f g args σ r σ' h1 h2
 unfold ext at h1
 cases h58 : Nat.beq f 58 with
 | true => have e := Nat.eq_of_beq_eq_true h58; rw [h58] at h1; have h1 : some fmtE = some g := h1; injection h1 with h1; subst h1; subst e; exact fmt_ok Tryd.laysM173 (by kernel_rfl) args σ r σ' h2
 | false =>
 rw [h58] at h1
 simp only [cond_false] at h1
 cases h60 : Nat.beq f 60 with
 | true => have e := Nat.eq_of_beq_eq_true h60; rw [h60] at h1; have h1 : some (numE tynB) = some g := h1; injection h1 with h1; subst h1; subst e; exact num_ok (Enter.of_ok (c := Tryd.f60.body.getD .skip) (n := Tryd.f60.ntmps) (rs := Tryd.f60.results.toList) ⟨Tryd.f60, by kernel_rfl, by kernel_rfl, by kernel_rfl, by kernel_rfl, rfl, rfl⟩) Tryd.tyn args σ r σ' h2
 | false =>
 rw [h60] at h1
 simp only [cond_false] at h1
 cases h92 : Nat.beq f 92 with
 | true => have e := Nat.eq_of_beq_eq_true h92; rw [h92] at h1; have h1 : some repE = some g := h1; injection h1 with h1; subst h1; subst e; exact rep_ok Tryd.lays155 Tryd.bx155 (by kernel_rfl) args σ r σ' h2
 | false =>
 rw [h92] at h1
 simp only [cond_false] at h1
 cases h1
theorem ok_4 : Ok Tryd.prog 4 (Tryd.f4.body.getD .skip) Tryd.f4.ntmps Tryd.f4.results.toList := ⟨Tryd.f4, by kernel_rfl, by kernel_rfl, by kernel_rfl, by kernel_rfl, rfl, rfl⟩
theorem ok_12 : Ok Tryd.prog 12 (Tryd.f12.body.getD .skip) Tryd.f12.ntmps Tryd.f12.results.toList := ⟨Tryd.f12, by kernel_rfl, by kernel_rfl, by kernel_rfl, by kernel_rfl, rfl, rfl⟩
theorem ok_13 : Ok Tryd.prog 13 (Tryd.f13.body.getD .skip) Tryd.f13.ntmps Tryd.f13.results.toList := ⟨Tryd.f13, by kernel_rfl, by kernel_rfl, by kernel_rfl, by kernel_rfl, rfl, rfl⟩
theorem ok_14 : Ok Tryd.prog 14 (Tryd.f14.body.getD .skip) Tryd.f14.ntmps Tryd.f14.results.toList := ⟨Tryd.f14, by kernel_rfl, by kernel_rfl, by kernel_rfl, by kernel_rfl, rfl, rfl⟩
theorem ok_15 : Ok Tryd.prog 15 (Tryd.f15.body.getD .skip) Tryd.f15.ntmps Tryd.f15.results.toList := ⟨Tryd.f15, by kernel_rfl, by kernel_rfl, by kernel_rfl, by kernel_rfl, rfl, rfl⟩
theorem ok_16 : Ok Tryd.prog 16 (Tryd.f16.body.getD .skip) Tryd.f16.ntmps Tryd.f16.results.toList := ⟨Tryd.f16, by kernel_rfl, by kernel_rfl, by kernel_rfl, by kernel_rfl, rfl, rfl⟩
theorem ok_31 : Ok Tryd.prog 31 (Tryd.f31.body.getD .skip) Tryd.f31.ntmps Tryd.f31.results.toList := ⟨Tryd.f31, by kernel_rfl, by kernel_rfl, by kernel_rfl, by kernel_rfl, rfl, rfl⟩
theorem ok_37 : Ok Tryd.prog 37 (Tryd.f37.body.getD .skip) Tryd.f37.ntmps Tryd.f37.results.toList := ⟨Tryd.f37, by kernel_rfl, by kernel_rfl, by kernel_rfl, by kernel_rfl, rfl, rfl⟩
theorem ok_38 : Ok Tryd.prog 38 (Tryd.f38.body.getD .skip) Tryd.f38.ntmps Tryd.f38.results.toList := ⟨Tryd.f38, by kernel_rfl, by kernel_rfl, by kernel_rfl, by kernel_rfl, rfl, rfl⟩
theorem ok_39 : Ok Tryd.prog 39 (Tryd.f39.body.getD .skip) Tryd.f39.ntmps Tryd.f39.results.toList := ⟨Tryd.f39, by kernel_rfl, by kernel_rfl, by kernel_rfl, by kernel_rfl, rfl, rfl⟩
theorem ok_40 : Ok Tryd.prog 40 (Tryd.f40.body.getD .skip) Tryd.f40.ntmps Tryd.f40.results.toList := ⟨Tryd.f40, by kernel_rfl, by kernel_rfl, by kernel_rfl, by kernel_rfl, rfl, rfl⟩
theorem ok_41 : Ok Tryd.prog 41 (Tryd.f41.body.getD .skip) Tryd.f41.ntmps Tryd.f41.results.toList := ⟨Tryd.f41, by kernel_rfl, by kernel_rfl, by kernel_rfl, by kernel_rfl, rfl, rfl⟩
theorem ok_42 : Ok Tryd.prog 42 (Tryd.f42.body.getD .skip) Tryd.f42.ntmps Tryd.f42.results.toList := ⟨Tryd.f42, by kernel_rfl, by kernel_rfl, by kernel_rfl, by kernel_rfl, rfl, rfl⟩
theorem ok_59 : Ok Tryd.prog 59 (Tryd.f59.body.getD .skip) Tryd.f59.ntmps Tryd.f59.results.toList := ⟨Tryd.f59, by kernel_rfl, by kernel_rfl, by kernel_rfl, by kernel_rfl, rfl, rfl⟩
theorem ok_72 : Ok Tryd.prog 72 (Tryd.f72.body.getD .skip) Tryd.f72.ntmps Tryd.f72.results.toList := ⟨Tryd.f72, by kernel_rfl, by kernel_rfl, by kernel_rfl, by kernel_rfl, rfl, rfl⟩
theorem ok_73 : Ok Tryd.prog 73 (Tryd.f73.body.getD .skip) Tryd.f73.ntmps Tryd.f73.results.toList := ⟨Tryd.f73, by kernel_rfl, by kernel_rfl, by kernel_rfl, by kernel_rfl, rfl, rfl⟩
theorem ok_74 : Ok Tryd.prog 74 (Tryd.f74.body.getD .skip) Tryd.f74.ntmps Tryd.f74.results.toList := ⟨Tryd.f74, by kernel_rfl, by kernel_rfl, by kernel_rfl, by kernel_rfl, rfl, rfl⟩
theorem ok_75 : Ok Tryd.prog 75 (Tryd.f75.body.getD .skip) Tryd.f75.ntmps Tryd.f75.results.toList := ⟨Tryd.f75, by kernel_rfl, by kernel_rfl, by kernel_rfl, by kernel_rfl, rfl, rfl⟩
theorem ok_76 : Ok Tryd.prog 76 (Tryd.f76.body.getD .skip) Tryd.f76.ntmps Tryd.f76.results.toList := ⟨Tryd.f76, by kernel_rfl, by kernel_rfl, by kernel_rfl, by kernel_rfl, rfl, rfl⟩
theorem ok_77 : Ok Tryd.prog 77 (Tryd.f77.body.getD .skip) Tryd.f77.ntmps Tryd.f77.results.toList := ⟨Tryd.f77, by kernel_rfl, by kernel_rfl, by kernel_rfl, by kernel_rfl, rfl, rfl⟩
end Go.Am
end
