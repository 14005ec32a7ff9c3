/- The data. -/
import Derived.Test.YtohkcdkmpencnaaDoorAm5
import Derived.WalkKit
import Derived.Test.YtohkcdkmpencnaaDoorProg
section
set_option maxRecDepth 100000
set_option linter.unusedVariables false
set_option linter.unusedSimpArgs false
namespace Go.Am
def tynB (k : Int) : Option ByteArray := if k = 0 then some ⟨#[]⟩ else if k = 1 then some ⟨#[115, 116, 114, 105, 110, 103]⟩ else if k = 2 then some ⟨#[105, 110, 116, 101, 103, 101, 114]⟩ else if k = 3 then some ⟨#[112, 97, 116, 116, 101, 114, 110]⟩ else if k = 4 then some ⟨#[97, 114, 114, 97, 121]⟩ else if k = 5 then some ⟨#[116, 97, 98, 108, 101]⟩ else if k = 6 then some ⟨#[114, 101, 99, 111, 114, 100]⟩ else if k = 7 then some ⟨#[110, 97, 109, 101]⟩ else if k = 8 then some ⟨#[101, 120, 112, 114, 101, 115, 115, 105, 111, 110]⟩ else none
end Go.Am
namespace Go.Proofs
open Go.Shelf Go.RowKit
def Tryd.laysM173_ren : Go.Shelf.Ren := ⟨fun | 173 => 58 | 246 => 91 | 283 => 114 | 284 => 115 | 285 => 116 | 286 => 117 | 129 => 136 | 317 => 135 | 318 => 137 | 319 => 138 | 320 => 139 | 337 => 154 | 338 => 155 | n => n, fun | 2 => 2 | 3 => 3 | 9 => 9 | 4 => 4 | 171 => 163 | 0 => 0 | 53 => 106 | 37 => 22 | 5 => 5 | 173 => 166 | 212 => 205 | 51 => 206 | 20 => 20 | 213 => 207 | 46 => 143 | 232 => 231 | 233 => 232 | n => n, fun | 17 => 0 | 18 => 1 | 19 => 2 | n => n⟩
theorem Tryd.laysM173 : LaysM.n173 Tryd.prog Tryd.laysM173_ren := {
 mixed := by kernel_rfl,
 f129 := Tryd.func136.trans (congrArg some (by kernel_rfl)),
 f173 := Tryd.func58.trans (congrArg some (by kernel_rfl)),
 f246 := Tryd.func91.trans (congrArg some (by kernel_rfl)),
 f283 := Tryd.func114.trans (congrArg some (by kernel_rfl)),
 f284 := Tryd.func115.trans (congrArg some (by kernel_rfl)),
 f285 := Tryd.func116.trans (congrArg some (by kernel_rfl)),
 f286 := Tryd.func117.trans (congrArg some (by kernel_rfl)),
 f317 := Tryd.func135.trans (congrArg some (by kernel_rfl)),
 f318 := Tryd.func137.trans (congrArg some (by kernel_rfl)),
 f319 := Tryd.func138.trans (congrArg some (by kernel_rfl)),
 f320 := Tryd.func139.trans (congrArg some (by kernel_rfl)),
 f337 := Tryd.func154.trans (congrArg some (by kernel_rfl)),
 f338 := Tryd.func155.trans (congrArg some (by kernel_rfl)),
 t0 := Tryd.underlying0,
 a0 := Tryd.isAgg0,
 z0 := Tryd.sizeOf0,
 v0 := Tryd.zeroValue0,
 t2 := Tryd.underlying2,
 a2 := Tryd.isAgg2,
 z2 := Tryd.sizeOf2,
 v2 := Tryd.zeroValue2,
 t3 := Tryd.underlying3,
 a3 := Tryd.isAgg3,
 z3 := Tryd.sizeOf3,
 v3 := Tryd.zeroValue3,
 t4 := Tryd.underlying4,
 a4 := Tryd.isAgg4,
 z4 := Tryd.sizeOf4,
 v4 := Tryd.zeroValue4,
 t5 := Tryd.underlying5,
 a5 := Tryd.isAgg5,
 z5 := Tryd.sizeOf5,
 v5 := Tryd.zeroValue5,
 t9 := Tryd.underlying9,
 a9 := Tryd.isAgg9,
 z9 := Tryd.sizeOf9,
 v9 := Tryd.zeroValue9,
 t20 := Tryd.underlying20,
 a20 := Tryd.isAgg20,
 z20 := Tryd.sizeOf20,
 v20 := Tryd.zeroValue20,
 t37 := Tryd.underlying22,
 a37 := Tryd.isAgg22,
 z37 := Tryd.sizeOf22,
 v37 := Tryd.zeroValue22,
 t46 := Tryd.underlying143,
 a46 := Tryd.isAgg143,
 z46 := Tryd.sizeOf143,
 v46 := Tryd.zeroValue143,
 t51 := Tryd.underlying206,
 a51 := Tryd.isAgg206,
 z51 := Tryd.sizeOf206,
 v51 := Tryd.zeroValue206,
 t53 := Tryd.underlying106,
 a53 := Tryd.isAgg106,
 z53 := Tryd.sizeOf106,
 v53 := Tryd.zeroValue106,
 t171 := Tryd.underlying163,
 a171 := Tryd.isAgg163,
 z171 := Tryd.sizeOf163,
 v171 := Tryd.zeroValue163,
 t173 := Tryd.underlying166,
 a173 := Tryd.isAgg166,
 z173 := Tryd.sizeOf166,
 v173 := Tryd.zeroValue166,
 t212 := Tryd.underlying205,
 a212 := Tryd.isAgg205,
 z212 := Tryd.sizeOf205,
 v212 := Tryd.zeroValue205,
 t213 := Tryd.underlying207,
 a213 := Tryd.isAgg207,
 z213 := Tryd.sizeOf207,
 t232 := Tryd.underlying231,
 a232 := Tryd.isAgg231,
 z232 := Tryd.sizeOf231,
 v232 := Tryd.zeroValue231,
 t233 := Tryd.underlying232,
 a233 := Tryd.isAgg232,
 z233 := Tryd.sizeOf232,
 v233 := Tryd.zeroValue232,
 g17 := by kernel_rfl,
 g18 := by kernel_rfl,
 g19 := by kernel_rfl,
 i0 := by kernel_rfl,
 i2 := by kernel_rfl,
 i3 := by kernel_rfl,
 i4 := by kernel_rfl,
 i5 := by kernel_rfl,
 i9 := by kernel_rfl,
 i20 := by kernel_rfl,
 i37 := by kernel_rfl,
 i46 := by kernel_rfl,
 i51 := by kernel_rfl,
 i53 := by kernel_rfl,
 i171 := by kernel_rfl,
 i173 := by kernel_rfl,
 i212 := by kernel_rfl,
 i232 := by kernel_rfl,
 i233 := by kernel_rfl,
 m17 := by kernel_rfl,
 m18 := by kernel_rfl,
 m19 := by kernel_rfl }
def Tryd.lays155_ren : Go.Shelf.Ren := ⟨fun | 155 => 92 | 154 => 118 | 138 => 140 | 165 => 141 | 143 => 142 | 166 => 143 | 197 => 144 | 169 => 145 | 195 => 156 | 218 => 157 | 240 => 158 | 241 => 159 | 219 => 160 | 260 => 161 | 276 => 162 | 277 => 163 | 217 => 164 | 225 => 165 | 224 => 166 | 267 => 167 | 266 => 168 | 314 => 169 | n => n, fun | 9 => 9 | 3 => 3 | 4 => 4 | 72 => 213 | 0 => 0 | 76 => 217 | 105 => 219 | 21 => 21 | 5 => 5 | 70 => 211 | 20 => 20 | 37 => 22 | 75 => 216 | 127 => 230 | 164 => 233 | 46 => 143 | 119 => 236 | 139 => 239 | 138 => 238 | 146 => 240 | 51 => 206 | 80 => 92 | n => n, fun | 1 => 3 | 3 => 4 | 4 => 5 | n => n⟩
theorem Tryd.lays155 : Lays.n155 Tryd.prog Tryd.lays155_ren := {
 mixed := by kernel_rfl,
 f138 := Tryd.func140.trans (congrArg some (by kernel_rfl)),
 f143 := Tryd.func142.trans (congrArg some (by kernel_rfl)),
 f154 := Tryd.func118.trans (congrArg some (by kernel_rfl)),
 f155 := Tryd.func92.trans (congrArg some (by kernel_rfl)),
 f165 := Tryd.func141.trans (congrArg some (by kernel_rfl)),
 f166 := Tryd.func143.trans (congrArg some (by kernel_rfl)),
 f169 := Tryd.func145.trans (congrArg some (by kernel_rfl)),
 f195 := Tryd.func156.trans (congrArg some (by kernel_rfl)),
 f197 := Tryd.func144.trans (congrArg some (by kernel_rfl)),
 f217 := Tryd.func164.trans (congrArg some (by kernel_rfl)),
 f218 := Tryd.func157.trans (congrArg some (by kernel_rfl)),
 f219 := Tryd.func160.trans (congrArg some (by kernel_rfl)),
 f224 := Tryd.func166.trans (congrArg some (by kernel_rfl)),
 f225 := Tryd.func165.trans (congrArg some (by kernel_rfl)),
 f240 := Tryd.func158.trans (congrArg some (by kernel_rfl)),
 f241 := Tryd.func159.trans (congrArg some (by kernel_rfl)),
 f260 := Tryd.func161.trans (congrArg some (by kernel_rfl)),
 f266 := Tryd.func168.trans (congrArg some (by kernel_rfl)),
 f267 := Tryd.func167.trans (congrArg some (by kernel_rfl)),
 f276 := Tryd.func162.trans (congrArg some (by kernel_rfl)),
 f277 := Tryd.func163.trans (congrArg some (by kernel_rfl)),
 f314 := Tryd.func169.trans (congrArg some (by kernel_rfl)),
 t0 := Tryd.underlying0,
 a0 := Tryd.isAgg0,
 z0 := Tryd.sizeOf0,
 v0 := Tryd.zeroValue0,
 t3 := Tryd.underlying3,
 a3 := Tryd.isAgg3,
 z3 := Tryd.sizeOf3,
 v3 := Tryd.zeroValue3,
 t4 := Tryd.underlying4,
 a4 := Tryd.isAgg4,
 z4 := Tryd.sizeOf4,
 v4 := Tryd.zeroValue4,
 t5 := Tryd.underlying5,
 a5 := Tryd.isAgg5,
 z5 := Tryd.sizeOf5,
 v5 := Tryd.zeroValue5,
 t9 := Tryd.underlying9,
 a9 := Tryd.isAgg9,
 z9 := Tryd.sizeOf9,
 v9 := Tryd.zeroValue9,
 t20 := Tryd.underlying20,
 a20 := Tryd.isAgg20,
 z20 := Tryd.sizeOf20,
 v20 := Tryd.zeroValue20,
 t21 := Tryd.underlying21,
 a21 := Tryd.isAgg21,
 z21 := Tryd.sizeOf21,
 v21 := Tryd.zeroValue21,
 t37 := Tryd.underlying22,
 a37 := Tryd.isAgg22,
 z37 := Tryd.sizeOf22,
 v37 := Tryd.zeroValue22,
 t46 := Tryd.underlying143,
 a46 := Tryd.isAgg143,
 z46 := Tryd.sizeOf143,
 v46 := Tryd.zeroValue143,
 t51 := Tryd.underlying206,
 a51 := Tryd.isAgg206,
 z51 := Tryd.sizeOf206,
 v51 := Tryd.zeroValue206,
 t70 := Tryd.underlying211,
 a70 := Tryd.isAgg211,
 z70 := Tryd.sizeOf211,
 v70 := Tryd.zeroValue211,
 t72 := Tryd.underlying213,
 a72 := Tryd.isAgg213,
 z72 := Tryd.sizeOf213,
 v72 := Tryd.zeroValue213,
 t75 := Tryd.underlying216,
 a75 := Tryd.isAgg216,
 z75 := Tryd.sizeOf216,
 v75 := Tryd.zeroValue216,
 t76 := Tryd.underlying217,
 a76 := Tryd.isAgg217,
 z76 := Tryd.sizeOf217,
 v76 := Tryd.zeroValue217,
 t105 := Tryd.underlying219,
 a105 := Tryd.isAgg219,
 z105 := Tryd.sizeOf219,
 v105 := Tryd.zeroValue219,
 t119 := Tryd.underlying236,
 a119 := Tryd.isAgg236,
 z119 := Tryd.sizeOf236,
 t127 := Tryd.underlying230,
 a127 := Tryd.isAgg230,
 z127 := Tryd.sizeOf230,
 v127 := Tryd.zeroValue230,
 t138 := Tryd.underlying238,
 a138 := Tryd.isAgg238,
 z138 := Tryd.sizeOf238,
 v138 := Tryd.zeroValue238,
 t139 := Tryd.underlying239,
 a139 := Tryd.isAgg239,
 z139 := Tryd.sizeOf239,
 v139 := Tryd.zeroValue239,
 t146 := Tryd.underlying240,
 a146 := Tryd.isAgg240,
 z146 := Tryd.sizeOf240,
 v146 := Tryd.zeroValue240,
 t164 := Tryd.underlying233,
 a164 := Tryd.isAgg233,
 z164 := Tryd.sizeOf233,
 v164 := Tryd.zeroValue233,
 g1 := by kernel_rfl,
 g3 := by kernel_rfl,
 g4 := by kernel_rfl }
theorem Tryd.bx155 : Builder.Extra Tryd.prog Tryd.lays155_ren := { sizeBuilder := by kernel_rfl, liesBuilder := by kernel_rfl, t5 := Tryd.underlying5, a5 := Tryd.isAgg5, z5 := Tryd.sizeOf5, v5 := Tryd.zeroValue5, infoByte := by kernel_rfl, cellsByte := by kernel_rfl, sizeByte := by kernel_rfl, neB5 := by decide }
theorem Tryd.tyn0 (w : World) : Calls Tryd.prog 60 #[.int .i64 0] w fun e w' => e = .returned (.string ⟨#[]⟩) ∧ Below w.heap.size w w' := by
 go_enter Tryd.func60, Tryd.ntmps60
 go_wp2
 go_ret
 exact ⟨rfl, Below.alloc (Below.refl _ _) (Nat.le_refl _) _⟩
theorem Tryd.tyn1 (w : World) : Calls Tryd.prog 60 #[.int .i64 1] w fun e w' => e = .returned (.string ⟨#[115, 116, 114, 105, 110, 103]⟩) ∧ Below w.heap.size w w' := by
 go_enter Tryd.func60, Tryd.ntmps60
 go_wp2
 go_ret
 exact ⟨rfl, Below.alloc (Below.refl _ _) (Nat.le_refl _) _⟩
theorem Tryd.tyn2 (w : World) : Calls Tryd.prog 60 #[.int .i64 2] w fun e w' => e = .returned (.string ⟨#[105, 110, 116, 101, 103, 101, 114]⟩) ∧ Below w.heap.size w w' := by
 go_enter Tryd.func60, Tryd.ntmps60
 go_wp2
 go_ret
 exact ⟨rfl, Below.alloc (Below.refl _ _) (Nat.le_refl _) _⟩
theorem Tryd.tyn3 (w : World) : Calls Tryd.prog 60 #[.int .i64 3] w fun e w' => e = .returned (.string ⟨#[112, 97, 116, 116, 101, 114, 110]⟩) ∧ Below w.heap.size w w' := by
 go_enter Tryd.func60, Tryd.ntmps60
 go_wp2
 go_ret
 exact ⟨rfl, Below.alloc (Below.refl _ _) (Nat.le_refl _) _⟩
theorem Tryd.tyn4 (w : World) : Calls Tryd.prog 60 #[.int .i64 4] w fun e w' => e = .returned (.string ⟨#[97, 114, 114, 97, 121]⟩) ∧ Below w.heap.size w w' := by
 go_enter Tryd.func60, Tryd.ntmps60
 go_wp2
 go_ret
 exact ⟨rfl, Below.alloc (Below.refl _ _) (Nat.le_refl _) _⟩
theorem Tryd.tyn5 (w : World) : Calls Tryd.prog 60 #[.int .i64 5] w fun e w' => e = .returned (.string ⟨#[116, 97, 98, 108, 101]⟩) ∧ Below w.heap.size w w' := by
 go_enter Tryd.func60, Tryd.ntmps60
 go_wp2
 go_ret
 exact ⟨rfl, Below.alloc (Below.refl _ _) (Nat.le_refl _) _⟩
theorem Tryd.tyn6 (w : World) : Calls Tryd.prog 60 #[.int .i64 6] w fun e w' => e = .returned (.string ⟨#[114, 101, 99, 111, 114, 100]⟩) ∧ Below w.heap.size w w' := by
 go_enter Tryd.func60, Tryd.ntmps60
 go_wp2
 go_ret
 exact ⟨rfl, Below.alloc (Below.refl _ _) (Nat.le_refl _) _⟩
theorem Tryd.tyn7 (w : World) : Calls Tryd.prog 60 #[.int .i64 7] w fun e w' => e = .returned (.string ⟨#[110, 97, 109, 101]⟩) ∧ Below w.heap.size w w' := by
 go_enter Tryd.func60, Tryd.ntmps60
 go_wp2
 go_ret
 exact ⟨rfl, Below.alloc (Below.refl _ _) (Nat.le_refl _) _⟩
theorem Tryd.tyn8 (w : World) : Calls Tryd.prog 60 #[.int .i64 8] w fun e w' => e = .returned (.string ⟨#[101, 120, 112, 114, 101, 115, 115, 105, 111, 110]⟩) ∧ Below w.heap.size w w' := by
 go_enter Tryd.func60, Tryd.ntmps60
 go_wp2
 go_ret
 exact ⟨rfl, Below.alloc (Below.refl _ _) (Nat.le_refl _) _⟩
theorem Tryd.tyn (k : Int) (s : ByteArray) (w : World) (h : Go.Am.tynB k = some s) : Calls Tryd.prog 60 #[.int .i64 k] w fun e w' => e = .returned (.string s) ∧ Below w.heap.size w w' := by
 unfold Go.Am.tynB at h
 by_cases c0 : k = 0
 · subst c0; have h : some (⟨#[]⟩ : ByteArray) = some s := h; injection h with h; subst h; exact Tryd.tyn0 w
 rw [if_neg c0] at h
 by_cases c1 : k = 1
 · subst c1; have h : some (⟨#[115, 116, 114, 105, 110, 103]⟩ : ByteArray) = some s := h; injection h with h; subst h; exact Tryd.tyn1 w
 rw [if_neg c1] at h
 by_cases c2 : k = 2
 · subst c2; have h : some (⟨#[105, 110, 116, 101, 103, 101, 114]⟩ : ByteArray) = some s := h; injection h with h; subst h; exact Tryd.tyn2 w
 rw [if_neg c2] at h
 by_cases c3 : k = 3
 · subst c3; have h : some (⟨#[112, 97, 116, 116, 101, 114, 110]⟩ : ByteArray) = some s := h; injection h with h; subst h; exact Tryd.tyn3 w
 rw [if_neg c3] at h
 by_cases c4 : k = 4
 · subst c4; have h : some (⟨#[97, 114, 114, 97, 121]⟩ : ByteArray) = some s := h; injection h with h; subst h; exact Tryd.tyn4 w
 rw [if_neg c4] at h
 by_cases c5 : k = 5
 · subst c5; have h : some (⟨#[116, 97, 98, 108, 101]⟩ : ByteArray) = some s := h; injection h with h; subst h; exact Tryd.tyn5 w
 rw [if_neg c5] at h
 by_cases c6 : k = 6
 · subst c6; have h : some (⟨#[114, 101, 99, 111, 114, 100]⟩ : ByteArray) = some s := h; injection h with h; subst h; exact Tryd.tyn6 w
 rw [if_neg c6] at h
 by_cases c7 : k = 7
 · subst c7; have h : some (⟨#[110, 97, 109, 101]⟩ : ByteArray) = some s := h; injection h with h; subst h; exact Tryd.tyn7 w
 rw [if_neg c7] at h
 by_cases c8 : k = 8
 · subst c8; have h : some (⟨#[101, 120, 112, 114, 101, 115, 115, 105, 111, 110]⟩ : ByteArray) = some s := h; injection h with h; subst h; exact Tryd.tyn8 w
 rw [if_neg c8] at h
 cases h
end Go.Proofs
namespace Go.Am
open Go.Proofs
structure DValue where
  Kind : Int
  Num : Int
  Text : ByteArray
  Ref : Int
def DValue.cells (x : DValue) : List T := [i4 x.Kind, i4 x.Num, .str x.Text, i4 x.Ref]
instance : Enc DValue := ⟨DValue.cells, 4, fun _ => rfl, fun _ => rfl, fun x => by simp [DValue.cells, pureL, pureT], fun a b h => by
  rcases a with ⟨_, _, _, _⟩; rcases b with ⟨_, _, _, _⟩; simp [DValue.cells] at h; simp_all⟩
instance : Lit DValue := ⟨fun x => [i4 x.Kind, i4 x.Num, .str x.Text, i4 x.Ref], fun _ => rfl⟩
instance (z : Bool) : Hld z DValue := ⟨fun a σ d => by show frzL (hold z σ d) (DValue.cells a) = some (DValue.cells a, []); simp [DValue.cells, frzL]⟩
structure DFile where
  Name : ByteArray
  Lines : (Sl ByteArray)
  Mode : Int
  At : Int
def DFile.cells (x : DFile) : List T := [.str x.Name, x.Lines.t, i4 x.Mode, i4 x.At]
instance : Enc DFile := ⟨DFile.cells, 4, fun _ => rfl, fun _ => rfl, fun x => by simp [DFile.cells, pureL, pureT], fun a b h => by
  rcases a with ⟨_, _, _, _⟩; rcases b with ⟨_, _, _, _⟩; simp [DFile.cells] at h; simp_all⟩
instance : Lit DFile := ⟨fun x => [.str x.Name, x.Lines.t, i4 x.Mode, i4 x.At], fun _ => rfl⟩
instance : Hld false DFile := ⟨fun a σ d => by show frzL (hold false σ d) (DFile.cells a) = some (DFile.cells a, []); simp [DFile.cells, frzL]⟩
structure DConsole where
  Input : (Sl ByteArray)
  At : Int
  Output : (Sl ByteArray)
  Files : (Sl DFile)
  Trace : (Sl ByteArray)
def DConsole.cells (x : DConsole) : List T := [x.Input.t, i4 x.At, x.Output.t, x.Files.t, x.Trace.t]
instance : Enc DConsole := ⟨DConsole.cells, 5, fun _ => rfl, fun _ => rfl, fun x => by simp [DConsole.cells, pureL, pureT], fun a b h => by
  rcases a with ⟨_, _, _, _, _⟩; rcases b with ⟨_, _, _, _, _⟩; simp [DConsole.cells] at h; simp_all⟩
instance : Lit DConsole := ⟨fun x => [x.Input.t, i4 x.At, x.Output.t, x.Files.t, x.Trace.t], fun _ => rfl⟩
instance : Hld false DConsole := ⟨fun a σ d => by show frzL (hold false σ d) (DConsole.cells a) = some (DConsole.cells a, []); simp [DConsole.cells, frzL]⟩
structure DCapture where
  Name : ByteArray
  Text : ByteArray
  Cursor : Int
  Kind : Int
def DCapture.cells (x : DCapture) : List T := [.str x.Name, .str x.Text, i4 x.Cursor, i4 x.Kind]
instance : Enc DCapture := ⟨DCapture.cells, 4, fun _ => rfl, fun _ => rfl, fun x => by simp [DCapture.cells, pureL, pureT], fun a b h => by
  rcases a with ⟨_, _, _, _⟩; rcases b with ⟨_, _, _, _⟩; simp [DCapture.cells] at h; simp_all⟩
instance : Lit DCapture := ⟨fun x => [.str x.Name, .str x.Text, i4 x.Cursor, i4 x.Kind], fun _ => rfl⟩
instance (z : Bool) : Hld z DCapture := ⟨fun a σ d => by show frzL (hold z σ d) (DCapture.cells a) = some (DCapture.cells a, []); simp [DCapture.cells, frzL]⟩
structure DMatch where
  Start : Int
  End : Int
  Captures : (Sl DCapture)
def DMatch.cells (x : DMatch) : List T := [i4 x.Start, i4 x.End, x.Captures.t]
instance : Enc DMatch := ⟨DMatch.cells, 3, fun _ => rfl, fun _ => rfl, fun x => by simp [DMatch.cells, pureL, pureT], fun a b h => by
  rcases a with ⟨_, _, _⟩; rcases b with ⟨_, _, _⟩; simp [DMatch.cells] at h; simp_all⟩
instance : Lit DMatch := ⟨fun x => [i4 x.Start, i4 x.End, x.Captures.t], fun _ => rfl⟩
instance : Hld false DMatch := ⟨fun a σ d => by show frzL (hold false σ d) (DMatch.cells a) = some (DMatch.cells a, []); simp [DMatch.cells, frzL]⟩
structure DObject where
  Id : Int
  Kind : Int
  Name : ByteArray
  Low : Int
  Keys : (Sl DValue)
  Vals : (Sl DValue)
  Default : DValue
def DObject.cells (x : DObject) : List T := [i4 x.Id, i4 x.Kind, .str x.Name, i4 x.Low, x.Keys.t, x.Vals.t, i4 x.Default.Kind, i4 x.Default.Num, .str x.Default.Text, i4 x.Default.Ref]
instance : Enc DObject := ⟨DObject.cells, 10, fun _ => rfl, fun _ => rfl, fun x => by simp [DObject.cells, pureL, pureT], fun a b h => by
  rcases a with ⟨_, _, _, _, _, _, ⟨_, _, _, _⟩⟩; rcases b with ⟨_, _, _, _, _, _, ⟨_, _, _, _⟩⟩; simp [DObject.cells] at h; simp_all⟩
instance : Lit DObject := ⟨fun x => [i4 x.Id, i4 x.Kind, .str x.Name, i4 x.Low, x.Keys.t, x.Vals.t, i4 x.Default.Kind, i4 x.Default.Num, .str x.Default.Text, i4 x.Default.Ref], fun _ => rfl⟩
instance : Hld false DObject := ⟨fun a σ d => by show frzL (hold false σ d) (DObject.cells a) = some (DObject.cells a, []); simp [DObject.cells, frzL]⟩
structure DHeap where
  Next : Int
  Objects : (Sl DObject)
def DHeap.cells (x : DHeap) : List T := [i4 x.Next, x.Objects.t]
instance : Enc DHeap := ⟨DHeap.cells, 2, fun _ => rfl, fun _ => rfl, fun x => by simp [DHeap.cells, pureL, pureT], fun a b h => by
  rcases a with ⟨_, _⟩; rcases b with ⟨_, _⟩; simp [DHeap.cells] at h; simp_all⟩
instance : Lit DHeap := ⟨fun x => [i4 x.Next, x.Objects.t], fun _ => rfl⟩
instance : Hld false DHeap := ⟨fun a σ d => by show frzL (hold false σ d) (DHeap.cells a) = some (DHeap.cells a, []); simp [DHeap.cells, frzL]⟩
structure DBinding where
  Name : ByteArray
  Value : DValue
def DBinding.cells (x : DBinding) : List T := [.str x.Name, i4 x.Value.Kind, i4 x.Value.Num, .str x.Value.Text, i4 x.Value.Ref]
instance : Enc DBinding := ⟨DBinding.cells, 5, fun _ => rfl, fun _ => rfl, fun x => by simp [DBinding.cells, pureL, pureT], fun a b h => by
  rcases a with ⟨_, ⟨_, _, _, _⟩⟩; rcases b with ⟨_, ⟨_, _, _, _⟩⟩; simp [DBinding.cells] at h; simp_all⟩
instance : Lit DBinding := ⟨fun x => [.str x.Name, i4 x.Value.Kind, i4 x.Value.Num, .str x.Value.Text, i4 x.Value.Ref], fun _ => rfl⟩
instance (z : Bool) : Hld z DBinding := ⟨fun a σ d => by show frzL (hold z σ d) (DBinding.cells a) = some (DBinding.cells a, []); simp [DBinding.cells, frzL]⟩
structure DFunction where
  Name : ByteArray
  Params : (Sl ByteArray)
  Locals : (Sl ByteArray)
  Label : ByteArray
def DFunction.cells (x : DFunction) : List T := [.str x.Name, x.Params.t, x.Locals.t, .str x.Label]
instance : Enc DFunction := ⟨DFunction.cells, 4, fun _ => rfl, fun _ => rfl, fun x => by simp [DFunction.cells, pureL, pureT], fun a b h => by
  rcases a with ⟨_, _, _, _⟩; rcases b with ⟨_, _, _, _⟩; simp [DFunction.cells] at h; simp_all⟩
instance : Lit DFunction := ⟨fun x => [.str x.Name, x.Params.t, x.Locals.t, .str x.Label], fun _ => rfl⟩
instance : Hld false DFunction := ⟨fun a σ d => by show frzL (hold false σ d) (DFunction.cells a) = some (DFunction.cells a, []); simp [DFunction.cells, frzL]⟩
structure DRecordType where
  Name : ByteArray
  Fields : (Sl ByteArray)
def DRecordType.cells (x : DRecordType) : List T := [.str x.Name, x.Fields.t]
instance : Enc DRecordType := ⟨DRecordType.cells, 2, fun _ => rfl, fun _ => rfl, fun x => by simp [DRecordType.cells, pureL, pureT], fun a b h => by
  rcases a with ⟨_, _⟩; rcases b with ⟨_, _⟩; simp [DRecordType.cells] at h; simp_all⟩
instance : Lit DRecordType := ⟨fun x => [.str x.Name, x.Fields.t], fun _ => rfl⟩
instance : Hld false DRecordType := ⟨fun a σ d => by show frzL (hold false σ d) (DRecordType.cells a) = some (DRecordType.cells a, []); simp [DRecordType.cells, frzL]⟩
structure DScope where
  Vars : (Sl DBinding)
  Functions : (Sl DFunction)
  Types : (Sl DRecordType)
def DScope.cells (x : DScope) : List T := [x.Vars.t, x.Functions.t, x.Types.t]
instance : Enc DScope := ⟨DScope.cells, 3, fun _ => rfl, fun _ => rfl, fun x => by simp [DScope.cells, pureL, pureT], fun a b h => by
  rcases a with ⟨_, _, _⟩; rcases b with ⟨_, _, _⟩; simp [DScope.cells] at h; simp_all⟩
instance : Lit DScope := ⟨fun x => [x.Vars.t, x.Functions.t, x.Types.t], fun _ => rfl⟩
instance : Hld false DScope := ⟨fun a σ d => by show frzL (hold false σ d) (DScope.cells a) = some (DScope.cells a, []); simp [DScope.cells, frzL]⟩
structure DMemory where
  Heap : DHeap
  Scope : DScope
  Console : DConsole
def DMemory.cells (x : DMemory) : List T := [i4 x.Heap.Next, x.Heap.Objects.t, x.Scope.Vars.t, x.Scope.Functions.t, x.Scope.Types.t, x.Console.Input.t, i4 x.Console.At, x.Console.Output.t, x.Console.Files.t, x.Console.Trace.t]
instance : Enc DMemory := ⟨DMemory.cells, 10, fun _ => rfl, fun _ => rfl, fun x => by simp [DMemory.cells, pureL, pureT], fun a b h => by
  rcases a with ⟨⟨_, _⟩, ⟨_, _, _⟩, ⟨_, _, _, _, _⟩⟩; rcases b with ⟨⟨_, _⟩, ⟨_, _, _⟩, ⟨_, _, _, _, _⟩⟩; simp [DMemory.cells] at h; simp_all⟩
instance : Lit DMemory := ⟨fun x => [i4 x.Heap.Next, x.Heap.Objects.t, x.Scope.Vars.t, x.Scope.Functions.t, x.Scope.Types.t, x.Console.Input.t, i4 x.Console.At, x.Console.Output.t, x.Console.Files.t, x.Console.Trace.t], fun _ => rfl⟩
instance : Hld false DMemory := ⟨fun a σ d => by show frzL (hold false σ d) (DMemory.cells a) = some (DMemory.cells a, []); simp [DMemory.cells, frzL]⟩
structure DOutcome where
  Memory : DMemory
  At : Int
  Steps : Int
  Code : Int
def DOutcome.cells (x : DOutcome) : List T := [i4 x.Memory.Heap.Next, x.Memory.Heap.Objects.t, x.Memory.Scope.Vars.t, x.Memory.Scope.Functions.t, x.Memory.Scope.Types.t, x.Memory.Console.Input.t, i4 x.Memory.Console.At, x.Memory.Console.Output.t, x.Memory.Console.Files.t, x.Memory.Console.Trace.t, i4 x.At, i4 x.Steps, i4 x.Code]
instance : Enc DOutcome := ⟨DOutcome.cells, 13, fun _ => rfl, fun _ => rfl, fun x => by simp [DOutcome.cells, pureL, pureT], fun a b h => by
  rcases a with ⟨⟨⟨_, _⟩, ⟨_, _, _⟩, ⟨_, _, _, _, _⟩⟩, _, _, _⟩; rcases b with ⟨⟨⟨_, _⟩, ⟨_, _, _⟩, ⟨_, _, _, _, _⟩⟩, _, _, _⟩; simp [DOutcome.cells] at h; simp_all⟩
instance : Lit DOutcome := ⟨fun x => [i4 x.Memory.Heap.Next, x.Memory.Heap.Objects.t, x.Memory.Scope.Vars.t, x.Memory.Scope.Functions.t, x.Memory.Scope.Types.t, x.Memory.Console.Input.t, i4 x.Memory.Console.At, x.Memory.Console.Output.t, x.Memory.Console.Files.t, x.Memory.Console.Trace.t, i4 x.At, i4 x.Steps, i4 x.Code], fun _ => rfl⟩
instance : Hld false DOutcome := ⟨fun a σ d => by show frzL (hold false σ d) (DOutcome.cells a) = some (DOutcome.cells a, []); simp [DOutcome.cells, frzL]⟩
structure DL00Src where
  code_ : (Sl (Iv .u8))
  at_ : Int
  seed_ : Int
def DL00Src.cells (x : DL00Src) : List T := [x.code_.t, i4 x.at_, .int .u64 x.seed_]
instance : Enc DL00Src := ⟨DL00Src.cells, 3, fun _ => rfl, fun _ => rfl, fun x => by simp [DL00Src.cells, pureL, pureT], fun a b h => by
  rcases a with ⟨_, _, _⟩; rcases b with ⟨_, _, _⟩; simp [DL00Src.cells] at h; simp_all⟩
instance : Lit DL00Src := ⟨fun x => [x.code_.t, i4 x.at_, .int .u64 x.seed_], fun _ => rfl⟩
instance : Hld false DL00Src := ⟨fun a σ d => by show frzL (hold false σ d) (DL00Src.cells a) = some (DL00Src.cells a, []); simp [DL00Src.cells, frzL]⟩
def md : Nat → Md := fun f => bif [14, 19, 34, 40, 45, 52, 68, 82, 83, 84, 101, 102, 103, 104, 105, 106, 125, 127, 128, 129, 150].elem f then .own else bif [22, 23, 24, 25, 26, 27, 35, 48, 49, 50, 51, 53, 58, 60, 89, 92, 113].elem f then .raw else .view
def ext : Ext := fun f => bif Nat.beq f 58 then some fmtE else bif Nat.beq f 60 then some (numE tynB) else bif Nat.beq f 92 then some repE else none
theorem len1 {hs : List T} (h : hs.length = 1) : ∃ a0, hs = [a0] := by
  rcases hs with _ | ⟨a0, _ | ⟨x, l⟩⟩ <;> simp at h
  exact ⟨a0, rfl⟩
theorem len2 {hs : List T} (h : hs.length = 2) : ∃ a0 a1, hs = [a0, a1] := by
  rcases hs with _ | ⟨a0, _ | ⟨a1, _ | ⟨x, l⟩⟩⟩ <;> simp at h
  exact ⟨a0, a1, rfl⟩
theorem len3 {hs : List T} (h : hs.length = 3) : ∃ a0 a1 a2, hs = [a0, a1, a2] := by
  rcases hs with _ | ⟨a0, _ | ⟨a1, _ | ⟨a2, _ | ⟨x, l⟩⟩⟩⟩ <;> simp at h
  exact ⟨a0, a1, a2, rfl⟩
theorem len4 {hs : List T} (h : hs.length = 4) : ∃ a0 a1 a2 a3, hs = [a0, a1, a2, a3] := by
  rcases hs with _ | ⟨a0, _ | ⟨a1, _ | ⟨a2, _ | ⟨a3, _ | ⟨x, l⟩⟩⟩⟩⟩ <;> simp at h
  exact ⟨a0, a1, a2, a3, rfl⟩
theorem len8 {hs : List T} (h : hs.length = 8) : ∃ a0 a1 a2 a3 a4 a5 a6 a7, hs = [a0, a1, a2, a3, a4, a5, a6, a7] := by
  rcases hs with _ | ⟨a0, _ | ⟨a1, _ | ⟨a2, _ | ⟨a3, _ | ⟨a4, _ | ⟨a5, _ | ⟨a6, _ | ⟨a7, _ | ⟨x, l⟩⟩⟩⟩⟩⟩⟩⟩⟩ <;> simp at h
  exact ⟨a0, a1, a2, a3, a4, a5, a6, a7, rfl⟩
def E_bool : Bool → T := fun y => .bool y
theorem E_bool_inj : ∀ a b, E_bool a = E_bool b → a = b := inj_bool
theorem E_bool_p : ∀ v, pureT (E_bool v) = true := fun v => by simp [pureT, pureL, E_bool]
def E_str : ByteArray → T := fun y => .str y
theorem E_str_inj : ∀ a b, E_str a = E_str b → a = b := inj_str
theorem E_str_p : ∀ v, pureT (E_str v) = true := fun v => by simp [pureT, pureL, E_str]
def E_i64 : Int → T := fun y => i4 y
theorem E_i64_inj : ∀ a b, E_i64 a = E_i64 b → a = b := inj_int
theorem E_i64_p : ∀ v, pureT (E_i64 v) = true := fun v => by simp [pureT, pureL, E_i64]
def E_DOutcome : DOutcome → T := fun y => .agg (DOutcome.cells y)
theorem E_DOutcome_inj : ∀ a b, E_DOutcome a = E_DOutcome b → a = b := inj_agg
def E_DConsole : DConsole → T := fun y => .agg (DConsole.cells y)
theorem E_DConsole_inj : ∀ a b, E_DConsole a = E_DConsole b → a = b := inj_agg
noncomputable def Sh_DConsole : Shape DConsole := ⟨4, fun hs y => match hs with | [h1, h2, h3, h4] => .agg [h1, i4 y.At, h2, h3, h4] | _ => .tup [], fun hs y => match hs with | [h1, h2, h3, h4] => [.own true 1 h1 (Sl.t (y.Input : Sl ByteArray)), .own true 1 h2 (Sl.t (y.Output : Sl ByteArray)), .own true 4 h3 (Sl.t (y.Files : Sl DFile)), .own true 1 h4 (Sl.t (y.Trace : Sl ByteArray))] | _ => [], E_DConsole, fun hs y h => by
  obtain ⟨h1, h2, h3, h4, rfl⟩ := len4 h
  exact (HL.agg (es1 := [.own true 1 h1 (Sl.t (y.Input : Sl ByteArray)), .own true 1 h2 (Sl.t (y.Output : Sl ByteArray)), .own true 4 h3 (Sl.t (y.Files : Sl DFile)), .own true 1 h4 (Sl.t (y.Trace : Sl ByteArray))]) (es2 := []) (HL.own rfl (HL.leaf (fun σ d => by simp) (HL.own rfl (HL.own rfl (HL.own rfl HL.nil))))) HL.nil), E_DConsole_inj⟩
def E_DValue : DValue → T := fun y => .agg (DValue.cells y)
theorem E_DValue_inj : ∀ a b, E_DValue a = E_DValue b → a = b := inj_agg
theorem E_DValue_p : ∀ v, pureT (E_DValue v) = true := fun v => by simp [pureT, pureL, E_DValue, DValue.cells]
def E_DMemory : DMemory → T := fun y => .agg (DMemory.cells y)
theorem E_DMemory_inj : ∀ a b, E_DMemory a = E_DMemory b → a = b := inj_agg
def E_sl_str : (Sl ByteArray) → T := fun y => y.t
theorem E_sl_str_inj : ∀ a b, E_sl_str a = E_sl_str b → a = b := inj_sl
def E_DHeap : DHeap → T := fun y => .agg (DHeap.cells y)
theorem E_DHeap_inj : ∀ a b, E_DHeap a = E_DHeap b → a = b := inj_agg
def E_DScope : DScope → T := fun y => .agg (DScope.cells y)
theorem E_DScope_inj : ∀ a b, E_DScope a = E_DScope b → a = b := inj_agg
noncomputable def Sh_sl_str : Shape (Sl ByteArray) := ⟨1, fun hs y => match hs with | [h1] => h1 | _ => .tup [], fun hs y => match hs with | [h1] => [.own true 1 h1 (Sl.t (y : Sl ByteArray))] | _ => [], E_sl_str, fun hs y h => by
  obtain ⟨h1, rfl⟩ := len1 h
  exact (HL.own rfl HL.nil), E_sl_str_inj⟩
def E_sl_DObject : (Sl DObject) → T := fun y => y.t
theorem E_sl_DObject_inj : ∀ a b, E_sl_DObject a = E_sl_DObject b → a = b := inj_sl
def E_sl_DBinding : (Sl DBinding) → T := fun y => y.t
theorem E_sl_DBinding_inj : ∀ a b, E_sl_DBinding a = E_sl_DBinding b → a = b := inj_sl
def E_sl_DFunction : (Sl DFunction) → T := fun y => y.t
theorem E_sl_DFunction_inj : ∀ a b, E_sl_DFunction a = E_sl_DFunction b → a = b := inj_sl
def E_sl_DRecordType : (Sl DRecordType) → T := fun y => y.t
theorem E_sl_DRecordType_inj : ∀ a b, E_sl_DRecordType a = E_sl_DRecordType b → a = b := inj_sl
def E_sl_DFile : (Sl DFile) → T := fun y => y.t
theorem E_sl_DFile_inj : ∀ a b, E_sl_DFile a = E_sl_DFile b → a = b := inj_sl
def E_DObject : DObject → T := fun y => .agg (DObject.cells y)
theorem E_DObject_inj : ∀ a b, E_DObject a = E_DObject b → a = b := inj_agg
def E_DBinding : DBinding → T := fun y => .agg (DBinding.cells y)
theorem E_DBinding_inj : ∀ a b, E_DBinding a = E_DBinding b → a = b := inj_agg
theorem E_DBinding_p : ∀ v, pureT (E_DBinding v) = true := fun v => by simp [pureT, pureL, E_DBinding, DBinding.cells, DValue.cells]
def E_DFunction : DFunction → T := fun y => .agg (DFunction.cells y)
theorem E_DFunction_inj : ∀ a b, E_DFunction a = E_DFunction b → a = b := inj_agg
def E_DRecordType : DRecordType → T := fun y => .agg (DRecordType.cells y)
theorem E_DRecordType_inj : ∀ a b, E_DRecordType a = E_DRecordType b → a = b := inj_agg
def E_DFile : DFile → T := fun y => .agg (DFile.cells y)
theorem E_DFile_inj : ∀ a b, E_DFile a = E_DFile b → a = b := inj_agg
def E_sl_DValue : (Sl DValue) → T := fun y => y.t
theorem E_sl_DValue_inj : ∀ a b, E_sl_DValue a = E_sl_DValue b → a = b := inj_sl
noncomputable def Sh_DOutcome : Shape DOutcome := ⟨8, fun hs y => match hs with | [h1, h2, h3, h4, h5, h6, h7, h8] => .agg [i4 y.Memory.Heap.Next, h1, h2, h3, h4, h5, i4 y.Memory.Console.At, h6, h7, h8, i4 y.At, i4 y.Steps, i4 y.Code] | _ => .tup [], fun hs y => match hs with | [h1, h2, h3, h4, h5, h6, h7, h8] => [.own true 10 h1 (Sl.t (y.Memory.Heap.Objects : Sl DObject)), .own true 5 h2 (Sl.t (y.Memory.Scope.Vars : Sl DBinding)), .own true 4 h3 (Sl.t (y.Memory.Scope.Functions : Sl DFunction)), .own true 2 h4 (Sl.t (y.Memory.Scope.Types : Sl DRecordType)), .own true 1 h5 (Sl.t (y.Memory.Console.Input : Sl ByteArray)), .own true 1 h6 (Sl.t (y.Memory.Console.Output : Sl ByteArray)), .own true 4 h7 (Sl.t (y.Memory.Console.Files : Sl DFile)), .own true 1 h8 (Sl.t (y.Memory.Console.Trace : Sl ByteArray))] | _ => [], E_DOutcome, fun hs y h => by
  obtain ⟨h1, h2, h3, h4, h5, h6, h7, h8, rfl⟩ := len8 h
  exact (HL.agg (es1 := [.own true 10 h1 (Sl.t (y.Memory.Heap.Objects : Sl DObject)), .own true 5 h2 (Sl.t (y.Memory.Scope.Vars : Sl DBinding)), .own true 4 h3 (Sl.t (y.Memory.Scope.Functions : Sl DFunction)), .own true 2 h4 (Sl.t (y.Memory.Scope.Types : Sl DRecordType)), .own true 1 h5 (Sl.t (y.Memory.Console.Input : Sl ByteArray)), .own true 1 h6 (Sl.t (y.Memory.Console.Output : Sl ByteArray)), .own true 4 h7 (Sl.t (y.Memory.Console.Files : Sl DFile)), .own true 1 h8 (Sl.t (y.Memory.Console.Trace : Sl ByteArray))]) (es2 := []) (HL.leaf (fun σ d => by simp) (HL.own rfl (HL.own rfl (HL.own rfl (HL.own rfl (HL.own rfl (HL.leaf (fun σ d => by simp) (HL.own rfl (HL.own rfl (HL.own rfl (HL.leaf (fun σ d => by simp) (HL.leaf (fun σ d => by simp) (HL.leaf (fun σ d => by simp) HL.nil))))))))))))) HL.nil), E_DOutcome_inj⟩
noncomputable def Sh_DMemory : Shape DMemory := ⟨8, fun hs y => match hs with | [h1, h2, h3, h4, h5, h6, h7, h8] => .agg [i4 y.Heap.Next, h1, h2, h3, h4, h5, i4 y.Console.At, h6, h7, h8] | _ => .tup [], fun hs y => match hs with | [h1, h2, h3, h4, h5, h6, h7, h8] => [.own true 10 h1 (Sl.t (y.Heap.Objects : Sl DObject)), .own true 5 h2 (Sl.t (y.Scope.Vars : Sl DBinding)), .own true 4 h3 (Sl.t (y.Scope.Functions : Sl DFunction)), .own true 2 h4 (Sl.t (y.Scope.Types : Sl DRecordType)), .own true 1 h5 (Sl.t (y.Console.Input : Sl ByteArray)), .own true 1 h6 (Sl.t (y.Console.Output : Sl ByteArray)), .own true 4 h7 (Sl.t (y.Console.Files : Sl DFile)), .own true 1 h8 (Sl.t (y.Console.Trace : Sl ByteArray))] | _ => [], E_DMemory, fun hs y h => by
  obtain ⟨h1, h2, h3, h4, h5, h6, h7, h8, rfl⟩ := len8 h
  exact (HL.agg (es1 := [.own true 10 h1 (Sl.t (y.Heap.Objects : Sl DObject)), .own true 5 h2 (Sl.t (y.Scope.Vars : Sl DBinding)), .own true 4 h3 (Sl.t (y.Scope.Functions : Sl DFunction)), .own true 2 h4 (Sl.t (y.Scope.Types : Sl DRecordType)), .own true 1 h5 (Sl.t (y.Console.Input : Sl ByteArray)), .own true 1 h6 (Sl.t (y.Console.Output : Sl ByteArray)), .own true 4 h7 (Sl.t (y.Console.Files : Sl DFile)), .own true 1 h8 (Sl.t (y.Console.Trace : Sl ByteArray))]) (es2 := []) (HL.leaf (fun σ d => by simp) (HL.own rfl (HL.own rfl (HL.own rfl (HL.own rfl (HL.own rfl (HL.leaf (fun σ d => by simp) (HL.own rfl (HL.own rfl (HL.own rfl HL.nil)))))))))) HL.nil), E_DMemory_inj⟩
noncomputable def Sh_DHeap : Shape DHeap := ⟨1, fun hs y => match hs with | [h1] => .agg [i4 y.Next, h1] | _ => .tup [], fun hs y => match hs with | [h1] => [.own true 10 h1 (Sl.t (y.Objects : Sl DObject))] | _ => [], E_DHeap, fun hs y h => by
  obtain ⟨h1, rfl⟩ := len1 h
  exact (HL.agg (es1 := [.own true 10 h1 (Sl.t (y.Objects : Sl DObject))]) (es2 := []) (HL.leaf (fun σ d => by simp) (HL.own rfl HL.nil)) HL.nil), E_DHeap_inj⟩
noncomputable def Sh_DScope : Shape DScope := ⟨3, fun hs y => match hs with | [h1, h2, h3] => .agg [h1, h2, h3] | _ => .tup [], fun hs y => match hs with | [h1, h2, h3] => [.own true 5 h1 (Sl.t (y.Vars : Sl DBinding)), .own true 4 h2 (Sl.t (y.Functions : Sl DFunction)), .own true 2 h3 (Sl.t (y.Types : Sl DRecordType))] | _ => [], E_DScope, fun hs y h => by
  obtain ⟨h1, h2, h3, rfl⟩ := len3 h
  exact (HL.agg (es1 := [.own true 5 h1 (Sl.t (y.Vars : Sl DBinding)), .own true 4 h2 (Sl.t (y.Functions : Sl DFunction)), .own true 2 h3 (Sl.t (y.Types : Sl DRecordType))]) (es2 := []) (HL.own rfl (HL.own rfl (HL.own rfl HL.nil))) HL.nil), E_DScope_inj⟩
noncomputable def Sh_sl_DObject : Shape (Sl DObject) := ⟨1, fun hs y => match hs with | [h1] => h1 | _ => .tup [], fun hs y => match hs with | [h1] => [.own true 10 h1 (Sl.t (y : Sl DObject))] | _ => [], E_sl_DObject, fun hs y h => by
  obtain ⟨h1, rfl⟩ := len1 h
  exact (HL.own rfl HL.nil), E_sl_DObject_inj⟩
noncomputable def Sh_sl_DBinding : Shape (Sl DBinding) := ⟨1, fun hs y => match hs with | [h1] => h1 | _ => .tup [], fun hs y => match hs with | [h1] => [.own true 5 h1 (Sl.t (y : Sl DBinding))] | _ => [], E_sl_DBinding, fun hs y h => by
  obtain ⟨h1, rfl⟩ := len1 h
  exact (HL.own rfl HL.nil), E_sl_DBinding_inj⟩
noncomputable def Sh_sl_DFunction : Shape (Sl DFunction) := ⟨1, fun hs y => match hs with | [h1] => h1 | _ => .tup [], fun hs y => match hs with | [h1] => [.own true 4 h1 (Sl.t (y : Sl DFunction))] | _ => [], E_sl_DFunction, fun hs y h => by
  obtain ⟨h1, rfl⟩ := len1 h
  exact (HL.own rfl HL.nil), E_sl_DFunction_inj⟩
noncomputable def Sh_sl_DRecordType : Shape (Sl DRecordType) := ⟨1, fun hs y => match hs with | [h1] => h1 | _ => .tup [], fun hs y => match hs with | [h1] => [.own true 2 h1 (Sl.t (y : Sl DRecordType))] | _ => [], E_sl_DRecordType, fun hs y h => by
  obtain ⟨h1, rfl⟩ := len1 h
  exact (HL.own rfl HL.nil), E_sl_DRecordType_inj⟩
noncomputable def Sh_sl_DFile : Shape (Sl DFile) := ⟨1, fun hs y => match hs with | [h1] => h1 | _ => .tup [], fun hs y => match hs with | [h1] => [.own true 4 h1 (Sl.t (y : Sl DFile))] | _ => [], E_sl_DFile, fun hs y h => by
  obtain ⟨h1, rfl⟩ := len1 h
  exact (HL.own rfl HL.nil), E_sl_DFile_inj⟩
noncomputable def Sh_DObject : Shape DObject := ⟨2, fun hs y => match hs with | [h1, h2] => .agg [i4 y.Id, i4 y.Kind, .str y.Name, i4 y.Low, h1, h2, i4 y.Default.Kind, i4 y.Default.Num, .str y.Default.Text, i4 y.Default.Ref] | _ => .tup [], fun hs y => match hs with | [h1, h2] => [.own true 4 h1 (Sl.t (y.Keys : Sl DValue)), .own true 4 h2 (Sl.t (y.Vals : Sl DValue))] | _ => [], E_DObject, fun hs y h => by
  obtain ⟨h1, h2, rfl⟩ := len2 h
  exact (HL.agg (es1 := [.own true 4 h1 (Sl.t (y.Keys : Sl DValue)), .own true 4 h2 (Sl.t (y.Vals : Sl DValue))]) (es2 := []) (HL.leaf (fun σ d => by simp) (HL.leaf (fun σ d => by simp) (HL.leaf (fun σ d => by simp) (HL.leaf (fun σ d => by simp) (HL.own rfl (HL.own rfl (HL.leaf (fun σ d => by simp) (HL.leaf (fun σ d => by simp) (HL.leaf (fun σ d => by simp) (HL.leaf (fun σ d => by simp) HL.nil)))))))))) HL.nil), E_DObject_inj⟩
noncomputable def Sh_DFunction : Shape DFunction := ⟨2, fun hs y => match hs with | [h1, h2] => .agg [.str y.Name, h1, h2, .str y.Label] | _ => .tup [], fun hs y => match hs with | [h1, h2] => [.own true 1 h1 (Sl.t (y.Params : Sl ByteArray)), .own true 1 h2 (Sl.t (y.Locals : Sl ByteArray))] | _ => [], E_DFunction, fun hs y h => by
  obtain ⟨h1, h2, rfl⟩ := len2 h
  exact (HL.agg (es1 := [.own true 1 h1 (Sl.t (y.Params : Sl ByteArray)), .own true 1 h2 (Sl.t (y.Locals : Sl ByteArray))]) (es2 := []) (HL.leaf (fun σ d => by simp) (HL.own rfl (HL.own rfl (HL.leaf (fun σ d => by simp) HL.nil)))) HL.nil), E_DFunction_inj⟩
noncomputable def Sh_DRecordType : Shape DRecordType := ⟨1, fun hs y => match hs with | [h1] => .agg [.str y.Name, h1] | _ => .tup [], fun hs y => match hs with | [h1] => [.own true 1 h1 (Sl.t (y.Fields : Sl ByteArray))] | _ => [], E_DRecordType, fun hs y h => by
  obtain ⟨h1, rfl⟩ := len1 h
  exact (HL.agg (es1 := [.own true 1 h1 (Sl.t (y.Fields : Sl ByteArray))]) (es2 := []) (HL.leaf (fun σ d => by simp) (HL.own rfl HL.nil)) HL.nil), E_DRecordType_inj⟩
noncomputable def Sh_DFile : Shape DFile := ⟨1, fun hs y => match hs with | [h1] => .agg [.str y.Name, h1, i4 y.Mode, i4 y.At] | _ => .tup [], fun hs y => match hs with | [h1] => [.own true 1 h1 (Sl.t (y.Lines : Sl ByteArray))] | _ => [], E_DFile, fun hs y h => by
  obtain ⟨h1, rfl⟩ := len1 h
  exact (HL.agg (es1 := [.own true 1 h1 (Sl.t (y.Lines : Sl ByteArray))]) (es2 := []) (HL.leaf (fun σ d => by simp) (HL.own rfl (HL.leaf (fun σ d => by simp) (HL.leaf (fun σ d => by simp) HL.nil)))) HL.nil), E_DFile_inj⟩
noncomputable def Sh_sl_DValue : Shape (Sl DValue) := ⟨1, fun hs y => match hs with | [h1] => h1 | _ => .tup [], fun hs y => match hs with | [h1] => [.own true 4 h1 (Sl.t (y : Sl DValue))] | _ => [], E_sl_DValue, fun hs y h => by
  obtain ⟨h1, rfl⟩ := len1 h
  exact (HL.own rfl HL.nil), E_sl_DValue_inj⟩
noncomputable def F_laws_FnExactOutcomeLine (a0 : DOutcome) : Option Bool := semV Tryd.prog md ext E_bool 5 [(.agg (DOutcome.cells a0))]
noncomputable def F_laws_szOutcome (a0 : DOutcome) (a1 : Int) : Option Int := semV Tryd.prog md ext E_i64 17 [(.agg (DOutcome.cells a0)), (i4 a1)]
noncomputable def F_spec_OutcomeLine (a0 : DOutcome) : Option ByteArray := semV Tryd.prog md ext E_str 18 [(.agg (DOutcome.cells a0))]
noncomputable def F_laws_toOutcome (a0 : DOutcome) : Option DOutcome := semO Tryd.prog md ext Sh_DOutcome 19 [(.agg (DOutcome.cells a0))]
noncomputable def F_impl_OutcomeLine (a0 : DOutcome) : Option ByteArray := semV Tryd.prog md ext E_str 20 [(.agg (DOutcome.cells a0))]
noncomputable def F_laws_eqOutcome (a0 : DOutcome) (a1 : DOutcome) : Option Bool := semV Tryd.prog md ext E_bool 21 [(.agg (DOutcome.cells a0)), (.agg (DOutcome.cells a1))]
noncomputable def F_impl_decimal (a0 : Int) : Option ByteArray := semV Tryd.prog md ext E_str 31 [(i4 a0)]
noncomputable def F_spec_l16Digits (a0 : Int) : Option ByteArray := semV Tryd.prog md ext E_str 38 [(i4 a0)]
noncomputable def F_laws_szMemory (a0 : DMemory) (a1 : Int) : Option Int := semV Tryd.prog md ext E_i64 43 [(.agg (DMemory.cells a0)), (i4 a1)]
noncomputable def F_spec_l29Error (a0 : Int) : Option ByteArray := semV Tryd.prog md ext E_str 44 [(i4 a0)]
noncomputable def F_laws_toMemory (a0 : DMemory) : Option DMemory := semO Tryd.prog md ext Sh_DMemory 45 [(.agg (DMemory.cells a0))]
noncomputable def F_impl_CodeName (a0 : Int) : Option ByteArray := semV Tryd.prog md ext E_str 46 [(i4 a0)]
noncomputable def F_laws_eqMemory (a0 : DMemory) (a1 : DMemory) : Option Bool := semV Tryd.prog md ext E_bool 47 [(.agg (DMemory.cells a0)), (.agg (DMemory.cells a1))]
noncomputable def F_spec_l00In (a0 : Int) (a1 : Int) (a2 : Int) : Option Bool := semV Tryd.prog md ext E_bool 70 [(i4 a0), (i4 a1), (i4 a2)]
noncomputable def F_spec_l16Below (a0 : Int) : Option ByteArray := semV Tryd.prog md ext E_str 73 [(i4 a0)]
noncomputable def F_spec_l11Digits (a0 : Int) : Option ByteArray := semV Tryd.prog md ext E_str 74 [(i4 a0)]
noncomputable def F_laws_szHeap (a0 : DHeap) (a1 : Int) : Option Int := semV Tryd.prog md ext E_i64 78 [(.agg (DHeap.cells a0)), (i4 a1)]
noncomputable def F_laws_szScope (a0 : DScope) (a1 : Int) : Option Int := semV Tryd.prog md ext E_i64 79 [(.agg (DScope.cells a0)), (i4 a1)]
noncomputable def F_laws_szConsole (a0 : DConsole) (a1 : Int) : Option Int := semV Tryd.prog md ext E_i64 80 [(.agg (DConsole.cells a0)), (i4 a1)]
noncomputable def F_spec_CodeName (a0 : Int) : Option ByteArray := semV Tryd.prog md ext E_str 81 [(i4 a0)]
noncomputable def F_laws_toHeap (a0 : DHeap) : Option DHeap := semO Tryd.prog md ext Sh_DHeap 82 [(.agg (DHeap.cells a0))]
noncomputable def F_laws_toScope (a0 : DScope) : Option DScope := semO Tryd.prog md ext Sh_DScope 83 [(.agg (DScope.cells a0))]
noncomputable def F_laws_toConsole (a0 : DConsole) : Option DConsole := semO Tryd.prog md ext Sh_DConsole 84 [(.agg (DConsole.cells a0))]
noncomputable def F_impl_isIndex (a0 : Int) (a1 : Int) : Option Bool := semV Tryd.prog md ext E_bool 85 [(i4 a0), (i4 a1)]
noncomputable def F_laws_eqHeap (a0 : DHeap) (a1 : DHeap) : Option Bool := semV Tryd.prog md ext E_bool 86 [(.agg (DHeap.cells a0)), (.agg (DHeap.cells a1))]
noncomputable def F_laws_eqScope (a0 : DScope) (a1 : DScope) : Option Bool := semV Tryd.prog md ext E_bool 87 [(.agg (DScope.cells a0)), (.agg (DScope.cells a1))]
noncomputable def F_laws_eqConsole (a0 : DConsole) (a1 : DConsole) : Option Bool := semV Tryd.prog md ext E_bool 88 [(.agg (DConsole.cells a0)), (.agg (DConsole.cells a1))]
noncomputable def F_laws_szObjectS (a0 : (Sl DObject)) (a1 : Int) : Option Int := semV Tryd.prog md ext E_i64 95 [(a0.t), (i4 a1)]
noncomputable def F_laws_szBindingS (a0 : (Sl DBinding)) (a1 : Int) : Option Int := semV Tryd.prog md ext E_i64 96 [(a0.t), (i4 a1)]
noncomputable def F_laws_szFunctionS (a0 : (Sl DFunction)) (a1 : Int) : Option Int := semV Tryd.prog md ext E_i64 97 [(a0.t), (i4 a1)]
noncomputable def F_laws_szRecordTypeS (a0 : (Sl DRecordType)) (a1 : Int) : Option Int := semV Tryd.prog md ext E_i64 98 [(a0.t), (i4 a1)]
noncomputable def F_laws_szStringS (a0 : (Sl ByteArray)) (a1 : Int) : Option Int := semV Tryd.prog md ext E_i64 99 [(a0.t), (i4 a1)]
noncomputable def F_laws_szFileS (a0 : (Sl DFile)) (a1 : Int) : Option Int := semV Tryd.prog md ext E_i64 100 [(a0.t), (i4 a1)]
noncomputable def F_laws_toObjectS (a0 : (Sl DObject)) : Option (Sl DObject) := semO Tryd.prog md ext Sh_sl_DObject 101 [(a0.t)]
noncomputable def F_laws_toBindingS (a0 : (Sl DBinding)) : Option (Sl DBinding) := semO Tryd.prog md ext Sh_sl_DBinding 102 [(a0.t)]
noncomputable def F_laws_toFunctionS (a0 : (Sl DFunction)) : Option (Sl DFunction) := semO Tryd.prog md ext Sh_sl_DFunction 103 [(a0.t)]
noncomputable def F_laws_toRecordTypeS (a0 : (Sl DRecordType)) : Option (Sl DRecordType) := semO Tryd.prog md ext Sh_sl_DRecordType 104 [(a0.t)]
noncomputable def F_laws_toStringS (a0 : (Sl ByteArray)) : Option (Sl ByteArray) := semO Tryd.prog md ext Sh_sl_str 105 [(a0.t)]
noncomputable def F_laws_toFileS (a0 : (Sl DFile)) : Option (Sl DFile) := semO Tryd.prog md ext Sh_sl_DFile 106 [(a0.t)]
noncomputable def F_laws_eqObjectS (a0 : (Sl DObject)) (a1 : (Sl DObject)) : Option Bool := semV Tryd.prog md ext E_bool 107 [(a0.t), (a1.t)]
noncomputable def F_laws_eqBindingS (a0 : (Sl DBinding)) (a1 : (Sl DBinding)) : Option Bool := semV Tryd.prog md ext E_bool 108 [(a0.t), (a1.t)]
noncomputable def F_laws_eqFunctionS (a0 : (Sl DFunction)) (a1 : (Sl DFunction)) : Option Bool := semV Tryd.prog md ext E_bool 109 [(a0.t), (a1.t)]
noncomputable def F_laws_eqRecordTypeS (a0 : (Sl DRecordType)) (a1 : (Sl DRecordType)) : Option Bool := semV Tryd.prog md ext E_bool 110 [(a0.t), (a1.t)]
noncomputable def F_laws_eqStringS (a0 : (Sl ByteArray)) (a1 : (Sl ByteArray)) : Option Bool := semV Tryd.prog md ext E_bool 111 [(a0.t), (a1.t)]
noncomputable def F_laws_eqFileS (a0 : (Sl DFile)) (a1 : (Sl DFile)) : Option Bool := semV Tryd.prog md ext E_bool 112 [(a0.t), (a1.t)]
noncomputable def F_laws_szObject (a0 : DObject) (a1 : Int) : Option Int := semV Tryd.prog md ext E_i64 120 [(.agg (DObject.cells a0)), (i4 a1)]
noncomputable def F_laws_szBinding (a0 : DBinding) (a1 : Int) : Option Int := semV Tryd.prog md ext E_i64 121 [(.agg (DBinding.cells a0)), (i4 a1)]
noncomputable def F_laws_szFunction (a0 : DFunction) (a1 : Int) : Option Int := semV Tryd.prog md ext E_i64 122 [(.agg (DFunction.cells a0)), (i4 a1)]
noncomputable def F_laws_szRecordType (a0 : DRecordType) (a1 : Int) : Option Int := semV Tryd.prog md ext E_i64 123 [(.agg (DRecordType.cells a0)), (i4 a1)]
noncomputable def F_laws_szFile (a0 : DFile) (a1 : Int) : Option Int := semV Tryd.prog md ext E_i64 124 [(.agg (DFile.cells a0)), (i4 a1)]
noncomputable def F_laws_toObject (a0 : DObject) : Option DObject := semO Tryd.prog md ext Sh_DObject 125 [(.agg (DObject.cells a0))]
noncomputable def F_laws_toBinding (a0 : DBinding) : Option DBinding := semV Tryd.prog md ext E_DBinding 126 [(.agg (DBinding.cells a0))]
noncomputable def F_laws_toFunction (a0 : DFunction) : Option DFunction := semO Tryd.prog md ext Sh_DFunction 127 [(.agg (DFunction.cells a0))]
noncomputable def F_laws_toRecordType (a0 : DRecordType) : Option DRecordType := semO Tryd.prog md ext Sh_DRecordType 128 [(.agg (DRecordType.cells a0))]
noncomputable def F_laws_toFile (a0 : DFile) : Option DFile := semO Tryd.prog md ext Sh_DFile 129 [(.agg (DFile.cells a0))]
noncomputable def F_laws_eqObject (a0 : DObject) (a1 : DObject) : Option Bool := semV Tryd.prog md ext E_bool 130 [(.agg (DObject.cells a0)), (.agg (DObject.cells a1))]
noncomputable def F_laws_eqBinding (a0 : DBinding) (a1 : DBinding) : Option Bool := semV Tryd.prog md ext E_bool 131 [(.agg (DBinding.cells a0)), (.agg (DBinding.cells a1))]
noncomputable def F_laws_eqFunction (a0 : DFunction) (a1 : DFunction) : Option Bool := semV Tryd.prog md ext E_bool 132 [(.agg (DFunction.cells a0)), (.agg (DFunction.cells a1))]
noncomputable def F_laws_eqRecordType (a0 : DRecordType) (a1 : DRecordType) : Option Bool := semV Tryd.prog md ext E_bool 133 [(.agg (DRecordType.cells a0)), (.agg (DRecordType.cells a1))]
noncomputable def F_laws_eqFile (a0 : DFile) (a1 : DFile) : Option Bool := semV Tryd.prog md ext E_bool 134 [(.agg (DFile.cells a0)), (.agg (DFile.cells a1))]
noncomputable def F_laws_szValueS (a0 : (Sl DValue)) (a1 : Int) : Option Int := semV Tryd.prog md ext E_i64 148 [(a0.t), (i4 a1)]
noncomputable def F_laws_szValue (a0 : DValue) (a1 : Int) : Option Int := semV Tryd.prog md ext E_i64 149 [(.agg (DValue.cells a0)), (i4 a1)]
noncomputable def F_laws_toValueS (a0 : (Sl DValue)) : Option (Sl DValue) := semO Tryd.prog md ext Sh_sl_DValue 150 [(a0.t)]
noncomputable def F_laws_toValue (a0 : DValue) : Option DValue := semV Tryd.prog md ext E_DValue 151 [(.agg (DValue.cells a0))]
noncomputable def F_laws_eqValueS (a0 : (Sl DValue)) (a1 : (Sl DValue)) : Option Bool := semV Tryd.prog md ext E_bool 152 [(a0.t), (a1.t)]
noncomputable def F_laws_eqValue (a0 : DValue) (a1 : DValue) : Option Bool := semV Tryd.prog md ext E_bool 153 [(.agg (DValue.cells a0)), (.agg (DValue.cells a1))]
theorem ext_x : XOk ext := by
 intro f g h1
 unfold ext at h1
 cases h58 : Nat.beq f 58 with
 | true => rw [h58] at h1; have h1 : some fmtE = some g := h1; injection h1 with h1; subst h1; exact fmt_x
 | false =>
 rw [h58] at h1
 simp only [cond_false] at h1
 cases h60 : Nat.beq f 60 with
 | true => rw [h60] at h1; have h1 : some (numE tynB) = some g := h1; injection h1 with h1; subst h1; exact (num_x tynB)
 | false =>
 rw [h60] at h1
 simp only [cond_false] at h1
 cases h92 : Nat.beq f 92 with
 | true => rw [h92] at h1; have h1 : some repE = some g := h1; injection h1 with h1; subst h1; exact rep_x
 | false =>
 rw [h92] at h1
 simp only [cond_false] at h1
 cases h1
noncomputable def F_strconv_FormatInt (a0 : Int) (a1 : Int) : Option ByteArray := semV Tryd.prog md ext E_str 58 [(i4 a0), (i4 a1)]
noncomputable def B_strconv_FormatInt (a0 : Int) (a1 : Int) : Option ByteArray := fmtB a0 a1
theorem u_strconv_FormatInt (a0 : Int) (a1 : Int) (r : ByteArray) (h : B_strconv_FormatInt a0 a1 = some r) : F_strconv_FormatInt a0 a1 = some r := sem_fmt E_str_inj rfl rfl h fun _ => rfl
theorem ext_ok : ∀ f g args σ r σ', ext f = some g → g args σ = some (r, σ') → SCall Tryd.prog f args σ r σ' := by
 intro f g args σ r σ' h1 h2
 unfold ext at h1
 cases h58 : Nat.beq f 58 with
 | true => have e := Nat.eq_of_beq_eq_true h58; rw [h58] at h1; have h1 : some fmtE = some g := h1; injection h1 with h1; subst h1; subst e; exact fmt_ok Tryd.laysM173 (by kernel_rfl) args σ r σ' h2
 | false =>
 rw [h58] at h1
 simp only [cond_false] at h1
 cases h60 : Nat.beq f 60 with
 | true => have e := Nat.eq_of_beq_eq_true h60; rw [h60] at h1; have h1 : some (numE tynB) = some g := h1; injection h1 with h1; subst h1; subst e; exact num_ok (Enter.of_ok (c := Tryd.f60.body.getD .skip) (n := Tryd.f60.ntmps) (rs := Tryd.f60.results.toList) ⟨Tryd.f60, by kernel_rfl, by kernel_rfl, by kernel_rfl, by kernel_rfl, rfl, rfl⟩) Tryd.tyn args σ r σ' h2
 | false =>
 rw [h60] at h1
 simp only [cond_false] at h1
 cases h92 : Nat.beq f 92 with
 | true => have e := Nat.eq_of_beq_eq_true h92; rw [h92] at h1; have h1 : some repE = some g := h1; injection h1 with h1; subst h1; subst e; exact rep_ok Tryd.lays155 Tryd.bx155 (by kernel_rfl) args σ r σ' h2
 | false =>
 rw [h92] at h1
 simp only [cond_false] at h1
 cases h1
theorem ok_5 : Ok Tryd.prog 5 (Tryd.f5.body.getD .skip) Tryd.f5.ntmps Tryd.f5.results.toList := ⟨Tryd.f5, by kernel_rfl, by kernel_rfl, by kernel_rfl, by kernel_rfl, rfl, rfl⟩
theorem ok_17 : Ok Tryd.prog 17 (Tryd.f17.body.getD .skip) Tryd.f17.ntmps Tryd.f17.results.toList := ⟨Tryd.f17, by kernel_rfl, by kernel_rfl, by kernel_rfl, by kernel_rfl, rfl, rfl⟩
theorem ok_18 : Ok Tryd.prog 18 (Tryd.f18.body.getD .skip) Tryd.f18.ntmps Tryd.f18.results.toList := ⟨Tryd.f18, by kernel_rfl, by kernel_rfl, by kernel_rfl, by kernel_rfl, rfl, rfl⟩
theorem ok_19 : Ok Tryd.prog 19 (Tryd.f19.body.getD .skip) Tryd.f19.ntmps Tryd.f19.results.toList := ⟨Tryd.f19, by kernel_rfl, by kernel_rfl, by kernel_rfl, by kernel_rfl, rfl, rfl⟩
theorem ok_20 : Ok Tryd.prog 20 (Tryd.f20.body.getD .skip) Tryd.f20.ntmps Tryd.f20.results.toList := ⟨Tryd.f20, by kernel_rfl, by kernel_rfl, by kernel_rfl, by kernel_rfl, rfl, rfl⟩
theorem ok_21 : Ok Tryd.prog 21 (Tryd.f21.body.getD .skip) Tryd.f21.ntmps Tryd.f21.results.toList := ⟨Tryd.f21, by kernel_rfl, by kernel_rfl, by kernel_rfl, by kernel_rfl, rfl, rfl⟩
theorem ok_31 : Ok Tryd.prog 31 (Tryd.f31.body.getD .skip) Tryd.f31.ntmps Tryd.f31.results.toList := ⟨Tryd.f31, by kernel_rfl, by kernel_rfl, by kernel_rfl, by kernel_rfl, rfl, rfl⟩
theorem ok_38 : Ok Tryd.prog 38 (Tryd.f38.body.getD .skip) Tryd.f38.ntmps Tryd.f38.results.toList := ⟨Tryd.f38, by kernel_rfl, by kernel_rfl, by kernel_rfl, by kernel_rfl, rfl, rfl⟩
theorem ok_43 : Ok Tryd.prog 43 (Tryd.f43.body.getD .skip) Tryd.f43.ntmps Tryd.f43.results.toList := ⟨Tryd.f43, by kernel_rfl, by kernel_rfl, by kernel_rfl, by kernel_rfl, rfl, rfl⟩
theorem ok_44 : Ok Tryd.prog 44 (Tryd.f44.body.getD .skip) Tryd.f44.ntmps Tryd.f44.results.toList := ⟨Tryd.f44, by kernel_rfl, by kernel_rfl, by kernel_rfl, by kernel_rfl, rfl, rfl⟩
theorem ok_45 : Ok Tryd.prog 45 (Tryd.f45.body.getD .skip) Tryd.f45.ntmps Tryd.f45.results.toList := ⟨Tryd.f45, by kernel_rfl, by kernel_rfl, by kernel_rfl, by kernel_rfl, rfl, rfl⟩
theorem ok_46 : Ok Tryd.prog 46 (Tryd.f46.body.getD .skip) Tryd.f46.ntmps Tryd.f46.results.toList := ⟨Tryd.f46, by kernel_rfl, by kernel_rfl, by kernel_rfl, by kernel_rfl, rfl, rfl⟩
theorem ok_47 : Ok Tryd.prog 47 (Tryd.f47.body.getD .skip) Tryd.f47.ntmps Tryd.f47.results.toList := ⟨Tryd.f47, by kernel_rfl, by kernel_rfl, by kernel_rfl, by kernel_rfl, rfl, rfl⟩
theorem ok_70 : Ok Tryd.prog 70 (Tryd.f70.body.getD .skip) Tryd.f70.ntmps Tryd.f70.results.toList := ⟨Tryd.f70, by kernel_rfl, by kernel_rfl, by kernel_rfl, by kernel_rfl, rfl, rfl⟩
theorem ok_73 : Ok Tryd.prog 73 (Tryd.f73.body.getD .skip) Tryd.f73.ntmps Tryd.f73.results.toList := ⟨Tryd.f73, by kernel_rfl, by kernel_rfl, by kernel_rfl, by kernel_rfl, rfl, rfl⟩
theorem ok_74 : Ok Tryd.prog 74 (Tryd.f74.body.getD .skip) Tryd.f74.ntmps Tryd.f74.results.toList := ⟨Tryd.f74, by kernel_rfl, by kernel_rfl, by kernel_rfl, by kernel_rfl, rfl, rfl⟩
theorem ok_78 : Ok Tryd.prog 78 (Tryd.f78.body.getD .skip) Tryd.f78.ntmps Tryd.f78.results.toList := ⟨Tryd.f78, by kernel_rfl, by kernel_rfl, by kernel_rfl, by kernel_rfl, rfl, rfl⟩
theorem ok_79 : Ok Tryd.prog 79 (Tryd.f79.body.getD .skip) Tryd.f79.ntmps Tryd.f79.results.toList := ⟨Tryd.f79, by kernel_rfl, by kernel_rfl, by kernel_rfl, by kernel_rfl, rfl, rfl⟩
theorem ok_80 : Ok Tryd.prog 80 (Tryd.f80.body.getD .skip) Tryd.f80.ntmps Tryd.f80.results.toList := ⟨Tryd.f80, by kernel_rfl, by kernel_rfl, by kernel_rfl, by kernel_rfl, rfl, rfl⟩
theorem ok_81 : Ok Tryd.prog 81 (Tryd.f81.body.getD .skip) Tryd.f81.ntmps Tryd.f81.results.toList := ⟨Tryd.f81, by kernel_rfl, by kernel_rfl, by kernel_rfl, by kernel_rfl, rfl, rfl⟩
theorem ok_82 : Ok Tryd.prog 82 (Tryd.f82.body.getD .skip) Tryd.f82.ntmps Tryd.f82.results.toList := ⟨Tryd.f82, by kernel_rfl, by kernel_rfl, by kernel_rfl, by kernel_rfl, rfl, rfl⟩
theorem ok_83 : Ok Tryd.prog 83 (Tryd.f83.body.getD .skip) Tryd.f83.ntmps Tryd.f83.results.toList := ⟨Tryd.f83, by kernel_rfl, by kernel_rfl, by kernel_rfl, by kernel_rfl, rfl, rfl⟩
theorem ok_84 : Ok Tryd.prog 84 (Tryd.f84.body.getD .skip) Tryd.f84.ntmps Tryd.f84.results.toList := ⟨Tryd.f84, by kernel_rfl, by kernel_rfl, by kernel_rfl, by kernel_rfl, rfl, rfl⟩
theorem ok_85 : Ok Tryd.prog 85 (Tryd.f85.body.getD .skip) Tryd.f85.ntmps Tryd.f85.results.toList := ⟨Tryd.f85, by kernel_rfl, by kernel_rfl, by kernel_rfl, by kernel_rfl, rfl, rfl⟩
theorem ok_86 : Ok Tryd.prog 86 (Tryd.f86.body.getD .skip) Tryd.f86.ntmps Tryd.f86.results.toList := ⟨Tryd.f86, by kernel_rfl, by kernel_rfl, by kernel_rfl, by kernel_rfl, rfl, rfl⟩
theorem ok_87 : Ok Tryd.prog 87 (Tryd.f87.body.getD .skip) Tryd.f87.ntmps Tryd.f87.results.toList := ⟨Tryd.f87, by kernel_rfl, by kernel_rfl, by kernel_rfl, by kernel_rfl, rfl, rfl⟩
theorem ok_88 : Ok Tryd.prog 88 (Tryd.f88.body.getD .skip) Tryd.f88.ntmps Tryd.f88.results.toList := ⟨Tryd.f88, by kernel_rfl, by kernel_rfl, by kernel_rfl, by kernel_rfl, rfl, rfl⟩
theorem ok_95 : Ok Tryd.prog 95 (Tryd.f95.body.getD .skip) Tryd.f95.ntmps Tryd.f95.results.toList := ⟨Tryd.f95, by kernel_rfl, by kernel_rfl, by kernel_rfl, by kernel_rfl, rfl, rfl⟩
theorem ok_96 : Ok Tryd.prog 96 (Tryd.f96.body.getD .skip) Tryd.f96.ntmps Tryd.f96.results.toList := ⟨Tryd.f96, by kernel_rfl, by kernel_rfl, by kernel_rfl, by kernel_rfl, rfl, rfl⟩
theorem ok_97 : Ok Tryd.prog 97 (Tryd.f97.body.getD .skip) Tryd.f97.ntmps Tryd.f97.results.toList := ⟨Tryd.f97, by kernel_rfl, by kernel_rfl, by kernel_rfl, by kernel_rfl, rfl, rfl⟩
theorem ok_98 : Ok Tryd.prog 98 (Tryd.f98.body.getD .skip) Tryd.f98.ntmps Tryd.f98.results.toList := ⟨Tryd.f98, by kernel_rfl, by kernel_rfl, by kernel_rfl, by kernel_rfl, rfl, rfl⟩
theorem ok_99 : Ok Tryd.prog 99 (Tryd.f99.body.getD .skip) Tryd.f99.ntmps Tryd.f99.results.toList := ⟨Tryd.f99, by kernel_rfl, by kernel_rfl, by kernel_rfl, by kernel_rfl, rfl, rfl⟩
theorem ok_100 : Ok Tryd.prog 100 (Tryd.f100.body.getD .skip) Tryd.f100.ntmps Tryd.f100.results.toList := ⟨Tryd.f100, by kernel_rfl, by kernel_rfl, by kernel_rfl, by kernel_rfl, rfl, rfl⟩
theorem ok_101 : Ok Tryd.prog 101 (Tryd.f101.body.getD .skip) Tryd.f101.ntmps Tryd.f101.results.toList := ⟨Tryd.f101, by kernel_rfl, by kernel_rfl, by kernel_rfl, by kernel_rfl, rfl, rfl⟩
theorem ok_102 : Ok Tryd.prog 102 (Tryd.f102.body.getD .skip) Tryd.f102.ntmps Tryd.f102.results.toList := ⟨Tryd.f102, by kernel_rfl, by kernel_rfl, by kernel_rfl, by kernel_rfl, rfl, rfl⟩
theorem ok_103 : Ok Tryd.prog 103 (Tryd.f103.body.getD .skip) Tryd.f103.ntmps Tryd.f103.results.toList := ⟨Tryd.f103, by kernel_rfl, by kernel_rfl, by kernel_rfl, by kernel_rfl, rfl, rfl⟩
theorem ok_104 : Ok Tryd.prog 104 (Tryd.f104.body.getD .skip) Tryd.f104.ntmps Tryd.f104.results.toList := ⟨Tryd.f104, by kernel_rfl, by kernel_rfl, by kernel_rfl, by kernel_rfl, rfl, rfl⟩
theorem ok_105 : Ok Tryd.prog 105 (Tryd.f105.body.getD .skip) Tryd.f105.ntmps Tryd.f105.results.toList := ⟨Tryd.f105, by kernel_rfl, by kernel_rfl, by kernel_rfl, by kernel_rfl, rfl, rfl⟩
theorem ok_106 : Ok Tryd.prog 106 (Tryd.f106.body.getD .skip) Tryd.f106.ntmps Tryd.f106.results.toList := ⟨Tryd.f106, by kernel_rfl, by kernel_rfl, by kernel_rfl, by kernel_rfl, rfl, rfl⟩
theorem ok_107 : Ok Tryd.prog 107 (Tryd.f107.body.getD .skip) Tryd.f107.ntmps Tryd.f107.results.toList := ⟨Tryd.f107, by kernel_rfl, by kernel_rfl, by kernel_rfl, by kernel_rfl, rfl, rfl⟩
theorem ok_108 : Ok Tryd.prog 108 (Tryd.f108.body.getD .skip) Tryd.f108.ntmps Tryd.f108.results.toList := ⟨Tryd.f108, by kernel_rfl, by kernel_rfl, by kernel_rfl, by kernel_rfl, rfl, rfl⟩
theorem ok_109 : Ok Tryd.prog 109 (Tryd.f109.body.getD .skip) Tryd.f109.ntmps Tryd.f109.results.toList := ⟨Tryd.f109, by kernel_rfl, by kernel_rfl, by kernel_rfl, by kernel_rfl, rfl, rfl⟩
theorem ok_110 : Ok Tryd.prog 110 (Tryd.f110.body.getD .skip) Tryd.f110.ntmps Tryd.f110.results.toList := ⟨Tryd.f110, by kernel_rfl, by kernel_rfl, by kernel_rfl, by kernel_rfl, rfl, rfl⟩
theorem ok_111 : Ok Tryd.prog 111 (Tryd.f111.body.getD .skip) Tryd.f111.ntmps Tryd.f111.results.toList := ⟨Tryd.f111, by kernel_rfl, by kernel_rfl, by kernel_rfl, by kernel_rfl, rfl, rfl⟩
theorem ok_112 : Ok Tryd.prog 112 (Tryd.f112.body.getD .skip) Tryd.f112.ntmps Tryd.f112.results.toList := ⟨Tryd.f112, by kernel_rfl, by kernel_rfl, by kernel_rfl, by kernel_rfl, rfl, rfl⟩
theorem ok_120 : Ok Tryd.prog 120 (Tryd.f120.body.getD .skip) Tryd.f120.ntmps Tryd.f120.results.toList := ⟨Tryd.f120, by kernel_rfl, by kernel_rfl, by kernel_rfl, by kernel_rfl, rfl, rfl⟩
theorem ok_121 : Ok Tryd.prog 121 (Tryd.f121.body.getD .skip) Tryd.f121.ntmps Tryd.f121.results.toList := ⟨Tryd.f121, by kernel_rfl, by kernel_rfl, by kernel_rfl, by kernel_rfl, rfl, rfl⟩
theorem ok_122 : Ok Tryd.prog 122 (Tryd.f122.body.getD .skip) Tryd.f122.ntmps Tryd.f122.results.toList := ⟨Tryd.f122, by kernel_rfl, by kernel_rfl, by kernel_rfl, by kernel_rfl, rfl, rfl⟩
theorem ok_123 : Ok Tryd.prog 123 (Tryd.f123.body.getD .skip) Tryd.f123.ntmps Tryd.f123.results.toList := ⟨Tryd.f123, by kernel_rfl, by kernel_rfl, by kernel_rfl, by kernel_rfl, rfl, rfl⟩
theorem ok_124 : Ok Tryd.prog 124 (Tryd.f124.body.getD .skip) Tryd.f124.ntmps Tryd.f124.results.toList := ⟨Tryd.f124, by kernel_rfl, by kernel_rfl, by kernel_rfl, by kernel_rfl, rfl, rfl⟩
theorem ok_125 : Ok Tryd.prog 125 (Tryd.f125.body.getD .skip) Tryd.f125.ntmps Tryd.f125.results.toList := ⟨Tryd.f125, by kernel_rfl, by kernel_rfl, by kernel_rfl, by kernel_rfl, rfl, rfl⟩
theorem ok_126 : Ok Tryd.prog 126 (Tryd.f126.body.getD .skip) Tryd.f126.ntmps Tryd.f126.results.toList := ⟨Tryd.f126, by kernel_rfl, by kernel_rfl, by kernel_rfl, by kernel_rfl, rfl, rfl⟩
theorem ok_127 : Ok Tryd.prog 127 (Tryd.f127.body.getD .skip) Tryd.f127.ntmps Tryd.f127.results.toList := ⟨Tryd.f127, by kernel_rfl, by kernel_rfl, by kernel_rfl, by kernel_rfl, rfl, rfl⟩
theorem ok_128 : Ok Tryd.prog 128 (Tryd.f128.body.getD .skip) Tryd.f128.ntmps Tryd.f128.results.toList := ⟨Tryd.f128, by kernel_rfl, by kernel_rfl, by kernel_rfl, by kernel_rfl, rfl, rfl⟩
theorem ok_129 : Ok Tryd.prog 129 (Tryd.f129.body.getD .skip) Tryd.f129.ntmps Tryd.f129.results.toList := ⟨Tryd.f129, by kernel_rfl, by kernel_rfl, by kernel_rfl, by kernel_rfl, rfl, rfl⟩
theorem ok_130 : Ok Tryd.prog 130 (Tryd.f130.body.getD .skip) Tryd.f130.ntmps Tryd.f130.results.toList := ⟨Tryd.f130, by kernel_rfl, by kernel_rfl, by kernel_rfl, by kernel_rfl, rfl, rfl⟩
theorem ok_131 : Ok Tryd.prog 131 (Tryd.f131.body.getD .skip) Tryd.f131.ntmps Tryd.f131.results.toList := ⟨Tryd.f131, by kernel_rfl, by kernel_rfl, by kernel_rfl, by kernel_rfl, rfl, rfl⟩
theorem ok_132 : Ok Tryd.prog 132 (Tryd.f132.body.getD .skip) Tryd.f132.ntmps Tryd.f132.results.toList := ⟨Tryd.f132, by kernel_rfl, by kernel_rfl, by kernel_rfl, by kernel_rfl, rfl, rfl⟩
theorem ok_133 : Ok Tryd.prog 133 (Tryd.f133.body.getD .skip) Tryd.f133.ntmps Tryd.f133.results.toList := ⟨Tryd.f133, by kernel_rfl, by kernel_rfl, by kernel_rfl, by kernel_rfl, rfl, rfl⟩
theorem ok_134 : Ok Tryd.prog 134 (Tryd.f134.body.getD .skip) Tryd.f134.ntmps Tryd.f134.results.toList := ⟨Tryd.f134, by kernel_rfl, by kernel_rfl, by kernel_rfl, by kernel_rfl, rfl, rfl⟩
theorem ok_148 : Ok Tryd.prog 148 (Tryd.f148.body.getD .skip) Tryd.f148.ntmps Tryd.f148.results.toList := ⟨Tryd.f148, by kernel_rfl, by kernel_rfl, by kernel_rfl, by kernel_rfl, rfl, rfl⟩
theorem ok_149 : Ok Tryd.prog 149 (Tryd.f149.body.getD .skip) Tryd.f149.ntmps Tryd.f149.results.toList := ⟨Tryd.f149, by kernel_rfl, by kernel_rfl, by kernel_rfl, by kernel_rfl, rfl, rfl⟩
theorem ok_150 : Ok Tryd.prog 150 (Tryd.f150.body.getD .skip) Tryd.f150.ntmps Tryd.f150.results.toList := ⟨Tryd.f150, by kernel_rfl, by kernel_rfl, by kernel_rfl, by kernel_rfl, rfl, rfl⟩
theorem ok_151 : Ok Tryd.prog 151 (Tryd.f151.body.getD .skip) Tryd.f151.ntmps Tryd.f151.results.toList := ⟨Tryd.f151, by kernel_rfl, by kernel_rfl, by kernel_rfl, by kernel_rfl, rfl, rfl⟩
theorem ok_152 : Ok Tryd.prog 152 (Tryd.f152.body.getD .skip) Tryd.f152.ntmps Tryd.f152.results.toList := ⟨Tryd.f152, by kernel_rfl, by kernel_rfl, by kernel_rfl, by kernel_rfl, rfl, rfl⟩
theorem ok_153 : Ok Tryd.prog 153 (Tryd.f153.body.getD .skip) Tryd.f153.ntmps Tryd.f153.results.toList := ⟨Tryd.f153, by kernel_rfl, by kernel_rfl, by kernel_rfl, by kernel_rfl, rfl, rfl⟩
end Go.Am
end
