/- The data. -/
import Derived.Test.YtohkcdkmpencnaaGreatDoorAm7
import Derived.WalkKit
import Derived.Test.YtohkcdkmpencnaaGreatDoorProg
section
set_option maxRecDepth 100000
set_option linter.unusedVariables false
set_option linter.unusedSimpArgs false
namespace Go.Am
def tynB (k : Int) : Option ByteArray := if k = 0 then some ⟨#[]⟩ else if k = 1 then some ⟨#[115, 116, 114, 105, 110, 103]⟩ else if k = 2 then some ⟨#[105, 110, 116, 101, 103, 101, 114]⟩ else if k = 3 then some ⟨#[112, 97, 116, 116, 101, 114, 110]⟩ else if k = 4 then some ⟨#[97, 114, 114, 97, 121]⟩ else if k = 5 then some ⟨#[116, 97, 98, 108, 101]⟩ else if k = 6 then some ⟨#[114, 101, 99, 111, 114, 100]⟩ else if k = 7 then some ⟨#[110, 97, 109, 101]⟩ else if k = 8 then some ⟨#[101, 120, 112, 114, 101, 115, 115, 105, 111, 110]⟩ else none
end Go.Am
namespace Go.Proofs
open Go.Shelf Go.RowKit
def Tryz.laysM173_ren : Go.Shelf.Ren := ⟨fun | 173 => 63 | 246 => 70 | 283 => 72 | 284 => 73 | 285 => 74 | 286 => 75 | 129 => 78 | 317 => 77 | 318 => 79 | 319 => 80 | 320 => 81 | 337 => 88 | 338 => 89 | n => n, fun | 2 => 2 | 3 => 3 | 9 => 9 | 4 => 4 | 171 => 85 | 0 => 0 | 53 => 86 | 37 => 77 | 5 => 5 | 173 => 89 | 212 => 94 | 51 => 95 | 20 => 20 | 213 => 96 | 46 => 98 | 232 => 115 | 233 => 116 | n => n, fun | 17 => 0 | 18 => 1 | 19 => 2 | n => n⟩
theorem Tryz.laysM173 : LaysM.n173 Tryz.prog Tryz.laysM173_ren := {
 mixed := by kernel_rfl,
 f129 := Tryz.func78.trans (congrArg some (by kernel_rfl)),
 f173 := Tryz.func63.trans (congrArg some (by kernel_rfl)),
 f246 := Tryz.func70.trans (congrArg some (by kernel_rfl)),
 f283 := Tryz.func72.trans (congrArg some (by kernel_rfl)),
 f284 := Tryz.func73.trans (congrArg some (by kernel_rfl)),
 f285 := Tryz.func74.trans (congrArg some (by kernel_rfl)),
 f286 := Tryz.func75.trans (congrArg some (by kernel_rfl)),
 f317 := Tryz.func77.trans (congrArg some (by kernel_rfl)),
 f318 := Tryz.func79.trans (congrArg some (by kernel_rfl)),
 f319 := Tryz.func80.trans (congrArg some (by kernel_rfl)),
 f320 := Tryz.func81.trans (congrArg some (by kernel_rfl)),
 f337 := Tryz.func88.trans (congrArg some (by kernel_rfl)),
 f338 := Tryz.func89.trans (congrArg some (by kernel_rfl)),
 t0 := Tryz.underlying0,
 a0 := Tryz.isAgg0,
 z0 := Tryz.sizeOf0,
 v0 := Tryz.zeroValue0,
 t2 := Tryz.underlying2,
 a2 := Tryz.isAgg2,
 z2 := Tryz.sizeOf2,
 v2 := Tryz.zeroValue2,
 t3 := Tryz.underlying3,
 a3 := Tryz.isAgg3,
 z3 := Tryz.sizeOf3,
 v3 := Tryz.zeroValue3,
 t4 := Tryz.underlying4,
 a4 := Tryz.isAgg4,
 z4 := Tryz.sizeOf4,
 v4 := Tryz.zeroValue4,
 t5 := Tryz.underlying5,
 a5 := Tryz.isAgg5,
 z5 := Tryz.sizeOf5,
 v5 := Tryz.zeroValue5,
 t9 := Tryz.underlying9,
 a9 := Tryz.isAgg9,
 z9 := Tryz.sizeOf9,
 v9 := Tryz.zeroValue9,
 t20 := Tryz.underlying20,
 a20 := Tryz.isAgg20,
 z20 := Tryz.sizeOf20,
 v20 := Tryz.zeroValue20,
 t37 := Tryz.underlying77,
 a37 := Tryz.isAgg77,
 z37 := Tryz.sizeOf77,
 v37 := Tryz.zeroValue77,
 t46 := Tryz.underlying98,
 a46 := Tryz.isAgg98,
 z46 := Tryz.sizeOf98,
 v46 := Tryz.zeroValue98,
 t51 := Tryz.underlying95,
 a51 := Tryz.isAgg95,
 z51 := Tryz.sizeOf95,
 v51 := Tryz.zeroValue95,
 t53 := Tryz.underlying86,
 a53 := Tryz.isAgg86,
 z53 := Tryz.sizeOf86,
 v53 := Tryz.zeroValue86,
 t171 := Tryz.underlying85,
 a171 := Tryz.isAgg85,
 z171 := Tryz.sizeOf85,
 v171 := Tryz.zeroValue85,
 t173 := Tryz.underlying89,
 a173 := Tryz.isAgg89,
 z173 := Tryz.sizeOf89,
 v173 := Tryz.zeroValue89,
 t212 := Tryz.underlying94,
 a212 := Tryz.isAgg94,
 z212 := Tryz.sizeOf94,
 v212 := Tryz.zeroValue94,
 t213 := Tryz.underlying96,
 a213 := Tryz.isAgg96,
 z213 := Tryz.sizeOf96,
 t232 := Tryz.underlying115,
 a232 := Tryz.isAgg115,
 z232 := Tryz.sizeOf115,
 v232 := Tryz.zeroValue115,
 t233 := Tryz.underlying116,
 a233 := Tryz.isAgg116,
 z233 := Tryz.sizeOf116,
 v233 := Tryz.zeroValue116,
 g17 := by kernel_rfl,
 g18 := by kernel_rfl,
 g19 := by kernel_rfl,
 i0 := by kernel_rfl,
 i2 := by kernel_rfl,
 i3 := by kernel_rfl,
 i4 := by kernel_rfl,
 i5 := by kernel_rfl,
 i9 := by kernel_rfl,
 i20 := by kernel_rfl,
 i37 := by kernel_rfl,
 i46 := by kernel_rfl,
 i51 := by kernel_rfl,
 i53 := by kernel_rfl,
 i171 := by kernel_rfl,
 i173 := by kernel_rfl,
 i212 := by kernel_rfl,
 i232 := by kernel_rfl,
 i233 := by kernel_rfl,
 m17 := by kernel_rfl,
 m18 := by kernel_rfl,
 m19 := by kernel_rfl }
def Tryz.lays155_ren : Go.Shelf.Ren := ⟨fun | 155 => 71 | 154 => 76 | 138 => 82 | 165 => 83 | 143 => 84 | 166 => 85 | 197 => 86 | 169 => 87 | 195 => 90 | 218 => 91 | 240 => 92 | 241 => 93 | 219 => 94 | 260 => 95 | 276 => 96 | 277 => 97 | 217 => 98 | 225 => 99 | 224 => 100 | 267 => 101 | 266 => 102 | 314 => 103 | n => n, fun | 9 => 9 | 3 => 3 | 4 => 4 | 72 => 103 | 0 => 0 | 76 => 107 | 105 => 109 | 21 => 21 | 5 => 5 | 70 => 101 | 20 => 20 | 37 => 77 | 75 => 106 | 127 => 114 | 164 => 117 | 46 => 98 | 119 => 120 | 139 => 123 | 138 => 122 | 146 => 124 | 51 => 95 | 80 => 67 | n => n, fun | 1 => 3 | 3 => 4 | 4 => 5 | n => n⟩
theorem Tryz.lays155 : Lays.n155 Tryz.prog Tryz.lays155_ren := {
 mixed := by kernel_rfl,
 f138 := Tryz.func82.trans (congrArg some (by kernel_rfl)),
 f143 := Tryz.func84.trans (congrArg some (by kernel_rfl)),
 f154 := Tryz.func76.trans (congrArg some (by kernel_rfl)),
 f155 := Tryz.func71.trans (congrArg some (by kernel_rfl)),
 f165 := Tryz.func83.trans (congrArg some (by kernel_rfl)),
 f166 := Tryz.func85.trans (congrArg some (by kernel_rfl)),
 f169 := Tryz.func87.trans (congrArg some (by kernel_rfl)),
 f195 := Tryz.func90.trans (congrArg some (by kernel_rfl)),
 f197 := Tryz.func86.trans (congrArg some (by kernel_rfl)),
 f217 := Tryz.func98.trans (congrArg some (by kernel_rfl)),
 f218 := Tryz.func91.trans (congrArg some (by kernel_rfl)),
 f219 := Tryz.func94.trans (congrArg some (by kernel_rfl)),
 f224 := Tryz.func100.trans (congrArg some (by kernel_rfl)),
 f225 := Tryz.func99.trans (congrArg some (by kernel_rfl)),
 f240 := Tryz.func92.trans (congrArg some (by kernel_rfl)),
 f241 := Tryz.func93.trans (congrArg some (by kernel_rfl)),
 f260 := Tryz.func95.trans (congrArg some (by kernel_rfl)),
 f266 := Tryz.func102.trans (congrArg some (by kernel_rfl)),
 f267 := Tryz.func101.trans (congrArg some (by kernel_rfl)),
 f276 := Tryz.func96.trans (congrArg some (by kernel_rfl)),
 f277 := Tryz.func97.trans (congrArg some (by kernel_rfl)),
 f314 := Tryz.func103.trans (congrArg some (by kernel_rfl)),
 t0 := Tryz.underlying0,
 a0 := Tryz.isAgg0,
 z0 := Tryz.sizeOf0,
 v0 := Tryz.zeroValue0,
 t3 := Tryz.underlying3,
 a3 := Tryz.isAgg3,
 z3 := Tryz.sizeOf3,
 v3 := Tryz.zeroValue3,
 t4 := Tryz.underlying4,
 a4 := Tryz.isAgg4,
 z4 := Tryz.sizeOf4,
 v4 := Tryz.zeroValue4,
 t5 := Tryz.underlying5,
 a5 := Tryz.isAgg5,
 z5 := Tryz.sizeOf5,
 v5 := Tryz.zeroValue5,
 t9 := Tryz.underlying9,
 a9 := Tryz.isAgg9,
 z9 := Tryz.sizeOf9,
 v9 := Tryz.zeroValue9,
 t20 := Tryz.underlying20,
 a20 := Tryz.isAgg20,
 z20 := Tryz.sizeOf20,
 v20 := Tryz.zeroValue20,
 t21 := Tryz.underlying21,
 a21 := Tryz.isAgg21,
 z21 := Tryz.sizeOf21,
 v21 := Tryz.zeroValue21,
 t37 := Tryz.underlying77,
 a37 := Tryz.isAgg77,
 z37 := Tryz.sizeOf77,
 v37 := Tryz.zeroValue77,
 t46 := Tryz.underlying98,
 a46 := Tryz.isAgg98,
 z46 := Tryz.sizeOf98,
 v46 := Tryz.zeroValue98,
 t51 := Tryz.underlying95,
 a51 := Tryz.isAgg95,
 z51 := Tryz.sizeOf95,
 v51 := Tryz.zeroValue95,
 t70 := Tryz.underlying101,
 a70 := Tryz.isAgg101,
 z70 := Tryz.sizeOf101,
 v70 := Tryz.zeroValue101,
 t72 := Tryz.underlying103,
 a72 := Tryz.isAgg103,
 z72 := Tryz.sizeOf103,
 v72 := Tryz.zeroValue103,
 t75 := Tryz.underlying106,
 a75 := Tryz.isAgg106,
 z75 := Tryz.sizeOf106,
 v75 := Tryz.zeroValue106,
 t76 := Tryz.underlying107,
 a76 := Tryz.isAgg107,
 z76 := Tryz.sizeOf107,
 v76 := Tryz.zeroValue107,
 t105 := Tryz.underlying109,
 a105 := Tryz.isAgg109,
 z105 := Tryz.sizeOf109,
 v105 := Tryz.zeroValue109,
 t119 := Tryz.underlying120,
 a119 := Tryz.isAgg120,
 z119 := Tryz.sizeOf120,
 t127 := Tryz.underlying114,
 a127 := Tryz.isAgg114,
 z127 := Tryz.sizeOf114,
 v127 := Tryz.zeroValue114,
 t138 := Tryz.underlying122,
 a138 := Tryz.isAgg122,
 z138 := Tryz.sizeOf122,
 v138 := Tryz.zeroValue122,
 t139 := Tryz.underlying123,
 a139 := Tryz.isAgg123,
 z139 := Tryz.sizeOf123,
 v139 := Tryz.zeroValue123,
 t146 := Tryz.underlying124,
 a146 := Tryz.isAgg124,
 z146 := Tryz.sizeOf124,
 v146 := Tryz.zeroValue124,
 t164 := Tryz.underlying117,
 a164 := Tryz.isAgg117,
 z164 := Tryz.sizeOf117,
 v164 := Tryz.zeroValue117,
 g1 := by kernel_rfl,
 g3 := by kernel_rfl,
 g4 := by kernel_rfl }
theorem Tryz.bx155 : Builder.Extra Tryz.prog Tryz.lays155_ren := { sizeBuilder := by kernel_rfl, liesBuilder := by kernel_rfl, t5 := Tryz.underlying5, a5 := Tryz.isAgg5, z5 := Tryz.sizeOf5, v5 := Tryz.zeroValue5, infoByte := by kernel_rfl, cellsByte := by kernel_rfl, sizeByte := by kernel_rfl, neB5 := by decide }
theorem Tryz.tyn0 (w : World) : Calls Tryz.prog 65 #[.int .i64 0] w fun e w' => e = .returned (.string ⟨#[]⟩) ∧ Below w.heap.size w w' := by
 go_enter Tryz.func65, Tryz.ntmps65
 go_wp2
 go_ret
 exact ⟨rfl, Below.alloc (Below.refl _ _) (Nat.le_refl _) _⟩
theorem Tryz.tyn1 (w : World) : Calls Tryz.prog 65 #[.int .i64 1] w fun e w' => e = .returned (.string ⟨#[115, 116, 114, 105, 110, 103]⟩) ∧ Below w.heap.size w w' := by
 go_enter Tryz.func65, Tryz.ntmps65
 go_wp2
 go_ret
 exact ⟨rfl, Below.alloc (Below.refl _ _) (Nat.le_refl _) _⟩
theorem Tryz.tyn2 (w : World) : Calls Tryz.prog 65 #[.int .i64 2] w fun e w' => e = .returned (.string ⟨#[105, 110, 116, 101, 103, 101, 114]⟩) ∧ Below w.heap.size w w' := by
 go_enter Tryz.func65, Tryz.ntmps65
 go_wp2
 go_ret
 exact ⟨rfl, Below.alloc (Below.refl _ _) (Nat.le_refl _) _⟩
theorem Tryz.tyn3 (w : World) : Calls Tryz.prog 65 #[.int .i64 3] w fun e w' => e = .returned (.string ⟨#[112, 97, 116, 116, 101, 114, 110]⟩) ∧ Below w.heap.size w w' := by
 go_enter Tryz.func65, Tryz.ntmps65
 go_wp2
 go_ret
 exact ⟨rfl, Below.alloc (Below.refl _ _) (Nat.le_refl _) _⟩
theorem Tryz.tyn4 (w : World) : Calls Tryz.prog 65 #[.int .i64 4] w fun e w' => e = .returned (.string ⟨#[97, 114, 114, 97, 121]⟩) ∧ Below w.heap.size w w' := by
 go_enter Tryz.func65, Tryz.ntmps65
 go_wp2
 go_ret
 exact ⟨rfl, Below.alloc (Below.refl _ _) (Nat.le_refl _) _⟩
theorem Tryz.tyn5 (w : World) : Calls Tryz.prog 65 #[.int .i64 5] w fun e w' => e = .returned (.string ⟨#[116, 97, 98, 108, 101]⟩) ∧ Below w.heap.size w w' := by
 go_enter Tryz.func65, Tryz.ntmps65
 go_wp2
 go_ret
 exact ⟨rfl, Below.alloc (Below.refl _ _) (Nat.le_refl _) _⟩
theorem Tryz.tyn6 (w : World) : Calls Tryz.prog 65 #[.int .i64 6] w fun e w' => e = .returned (.string ⟨#[114, 101, 99, 111, 114, 100]⟩) ∧ Below w.heap.size w w' := by
 go_enter Tryz.func65, Tryz.ntmps65
 go_wp2
 go_ret
 exact ⟨rfl, Below.alloc (Below.refl _ _) (Nat.le_refl _) _⟩
theorem Tryz.tyn7 (w : World) : Calls Tryz.prog 65 #[.int .i64 7] w fun e w' => e = .returned (.string ⟨#[110, 97, 109, 101]⟩) ∧ Below w.heap.size w w' := by
 go_enter Tryz.func65, Tryz.ntmps65
 go_wp2
 go_ret
 exact ⟨rfl, Below.alloc (Below.refl _ _) (Nat.le_refl _) _⟩
theorem Tryz.tyn8 (w : World) : Calls Tryz.prog 65 #[.int .i64 8] w fun e w' => e = .returned (.string ⟨#[101, 120, 112, 114, 101, 115, 115, 105, 111, 110]⟩) ∧ Below w.heap.size w w' := by
 go_enter Tryz.func65, Tryz.ntmps65
 go_wp2
 go_ret
 exact ⟨rfl, Below.alloc (Below.refl _ _) (Nat.le_refl _) _⟩
theorem Tryz.tyn (k : Int) (s : ByteArray) (w : World) (h : Go.Am.tynB k = some s) : Calls Tryz.prog 65 #[.int .i64 k] w fun e w' => e = .returned (.string s) ∧ Below w.heap.size w w' := by
 unfold Go.Am.tynB at h
 by_cases c0 : k = 0
 · subst c0; have h : some (⟨#[]⟩ : ByteArray) = some s := h; injection h with h; subst h; exact Tryz.tyn0 w
 rw [if_neg c0] at h
 by_cases c1 : k = 1
 · subst c1; have h : some (⟨#[115, 116, 114, 105, 110, 103]⟩ : ByteArray) = some s := h; injection h with h; subst h; exact Tryz.tyn1 w
 rw [if_neg c1] at h
 by_cases c2 : k = 2
 · subst c2; have h : some (⟨#[105, 110, 116, 101, 103, 101, 114]⟩ : ByteArray) = some s := h; injection h with h; subst h; exact Tryz.tyn2 w
 rw [if_neg c2] at h
 by_cases c3 : k = 3
 · subst c3; have h : some (⟨#[112, 97, 116, 116, 101, 114, 110]⟩ : ByteArray) = some s := h; injection h with h; subst h; exact Tryz.tyn3 w
 rw [if_neg c3] at h
 by_cases c4 : k = 4
 · subst c4; have h : some (⟨#[97, 114, 114, 97, 121]⟩ : ByteArray) = some s := h; injection h with h; subst h; exact Tryz.tyn4 w
 rw [if_neg c4] at h
 by_cases c5 : k = 5
 · subst c5; have h : some (⟨#[116, 97, 98, 108, 101]⟩ : ByteArray) = some s := h; injection h with h; subst h; exact Tryz.tyn5 w
 rw [if_neg c5] at h
 by_cases c6 : k = 6
 · subst c6; have h : some (⟨#[114, 101, 99, 111, 114, 100]⟩ : ByteArray) = some s := h; injection h with h; subst h; exact Tryz.tyn6 w
 rw [if_neg c6] at h
 by_cases c7 : k = 7
 · subst c7; have h : some (⟨#[110, 97, 109, 101]⟩ : ByteArray) = some s := h; injection h with h; subst h; exact Tryz.tyn7 w
 rw [if_neg c7] at h
 by_cases c8 : k = 8
 · subst c8; have h : some (⟨#[101, 120, 112, 114, 101, 115, 115, 105, 111, 110]⟩ : ByteArray) = some s := h; injection h with h; subst h; exact Tryz.tyn8 w
 rw [if_neg c8] at h
 cases h
end Go.Proofs
namespace Go.Am
open Go.Proofs
structure DFile where
  Name : ByteArray
  Lines : (Sl ByteArray)
  Mode : Int
  At : Int
def DFile.cells (x : DFile) : List T := [.str x.Name, x.Lines.t, i4 x.Mode, i4 x.At]
instance : Enc DFile := ⟨DFile.cells, 4, fun _ => rfl, fun _ => rfl, fun x => by simp [DFile.cells, pureL, pureT], fun a b h => by
  rcases a with ⟨_, _, _, _⟩; rcases b with ⟨_, _, _, _⟩; simp [DFile.cells] at h; simp_all⟩
instance : Lit DFile := ⟨fun x => [.str x.Name, x.Lines.t, i4 x.Mode, i4 x.At], fun _ => rfl⟩
instance : Hld false DFile := ⟨fun a σ d => by show frzL (hold false σ d) (DFile.cells a) = some (DFile.cells a, []); simp [DFile.cells, frzL]⟩
structure DConsole where
  Input : (Sl ByteArray)
  At : Int
  Output : (Sl ByteArray)
  Files : (Sl DFile)
  Trace : (Sl ByteArray)
def DConsole.cells (x : DConsole) : List T := [x.Input.t, i4 x.At, x.Output.t, x.Files.t, x.Trace.t]
instance : Enc DConsole := ⟨DConsole.cells, 5, fun _ => rfl, fun _ => rfl, fun x => by simp [DConsole.cells, pureL, pureT], fun a b h => by
  rcases a with ⟨_, _, _, _, _⟩; rcases b with ⟨_, _, _, _, _⟩; simp [DConsole.cells] at h; simp_all⟩
instance : Lit DConsole := ⟨fun x => [x.Input.t, i4 x.At, x.Output.t, x.Files.t, x.Trace.t], fun _ => rfl⟩
instance : Hld false DConsole := ⟨fun a σ d => by show frzL (hold false σ d) (DConsole.cells a) = some (DConsole.cells a, []); simp [DConsole.cells, frzL]⟩
structure DValue where
  Kind : Int
  Num : Int
  Text : ByteArray
  Ref : Int
def DValue.cells (x : DValue) : List T := [i4 x.Kind, i4 x.Num, .str x.Text, i4 x.Ref]
instance : Enc DValue := ⟨DValue.cells, 4, fun _ => rfl, fun _ => rfl, fun x => by simp [DValue.cells, pureL, pureT], fun a b h => by
  rcases a with ⟨_, _, _, _⟩; rcases b with ⟨_, _, _, _⟩; simp [DValue.cells] at h; simp_all⟩
instance : Lit DValue := ⟨fun x => [i4 x.Kind, i4 x.Num, .str x.Text, i4 x.Ref], fun _ => rfl⟩
instance (z : Bool) : Hld z DValue := ⟨fun a σ d => by show frzL (hold z σ d) (DValue.cells a) = some (DValue.cells a, []); simp [DValue.cells, frzL]⟩
def md : Nat → Md := fun f => bif [6, 7, 9, 17, 18, 19, 22, 38, 39, 52].elem f then .own else bif [11, 23, 26, 27, 63, 65, 71].elem f then .raw else .view
def ext : Ext := fun f => bif Nat.beq f 63 then some fmtE else bif Nat.beq f 65 then some (numE tynB) else bif Nat.beq f 71 then some repE else none
theorem len0 {hs : List T} (h : hs.length = 0) : hs = [] := List.length_eq_zero_iff.1 h
theorem len1 {hs : List T} (h : hs.length = 1) : ∃ a0, hs = [a0] := by
  rcases hs with _ | ⟨a0, _ | ⟨x, l⟩⟩ <;> simp at h
  exact ⟨a0, rfl⟩
theorem len4 {hs : List T} (h : hs.length = 4) : ∃ a0 a1 a2 a3, hs = [a0, a1, a2, a3] := by
  rcases hs with _ | ⟨a0, _ | ⟨a1, _ | ⟨a2, _ | ⟨a3, _ | ⟨x, l⟩⟩⟩⟩⟩ <;> simp at h
  exact ⟨a0, a1, a2, a3, rfl⟩
def E_bool : Bool → T := fun y => .bool y
theorem E_bool_inj : ∀ a b, E_bool a = E_bool b → a = b := inj_bool
theorem E_bool_p : ∀ v, pureT (E_bool v) = true := fun v => by simp [pureT, pureL, E_bool]
def E_i64 : Int → T := fun y => i4 y
theorem E_i64_inj : ∀ a b, E_i64 a = E_i64 b → a = b := inj_int
theorem E_i64_p : ∀ v, pureT (E_i64 v) = true := fun v => by simp [pureT, pureL, E_i64]
def E_t2_DConsole_i64 : (DConsole × Int) → T := fun y => .tup [.agg (DConsole.cells y.1), i4 y.2]
theorem E_t2_DConsole_i64_inj : ∀ a b, E_t2_DConsole_i64 a = E_t2_DConsole_i64 b → a = b := inj_t2 inj_agg inj_int
def E_DConsole : DConsole → T := fun y => .agg (DConsole.cells y)
theorem E_DConsole_inj : ∀ a b, E_DConsole a = E_DConsole b → a = b := inj_agg
def E_DValue : DValue → T := fun y => .agg (DValue.cells y)
theorem E_DValue_inj : ∀ a b, E_DValue a = E_DValue b → a = b := inj_agg
theorem E_DValue_p : ∀ v, pureT (E_DValue v) = true := fun v => by simp [pureT, pureL, E_DValue, DValue.cells]
def E_str : ByteArray → T := fun y => .str y
theorem E_str_inj : ∀ a b, E_str a = E_str b → a = b := inj_str
theorem E_str_p : ∀ v, pureT (E_str v) = true := fun v => by simp [pureT, pureL, E_str]
def E_sl_str : (Sl ByteArray) → T := fun y => y.t
theorem E_sl_str_inj : ∀ a b, E_sl_str a = E_sl_str b → a = b := inj_sl
def E_sl_DFile : (Sl DFile) → T := fun y => y.t
theorem E_sl_DFile_inj : ∀ a b, E_sl_DFile a = E_sl_DFile b → a = b := inj_sl
def E_DFile : DFile → T := fun y => .agg (DFile.cells y)
theorem E_DFile_inj : ∀ a b, E_DFile a = E_DFile b → a = b := inj_agg
noncomputable def Sh_t2_DConsole_i64 : Shape (DConsole × Int) := ⟨4, fun hs y => match hs with | [h1, h2, h3, h4] => .tup [.agg [h1, i4 y.1.At, h2, h3, h4], i4 y.2] | _ => .tup [], fun hs y => match hs with | [h1, h2, h3, h4] => [.own true 1 h1 (Sl.t (y.1.Input : Sl ByteArray)), .own true 1 h2 (Sl.t (y.1.Output : Sl ByteArray)), .own true 4 h3 (Sl.t (y.1.Files : Sl DFile)), .own true 1 h4 (Sl.t (y.1.Trace : Sl ByteArray))] | _ => [], E_t2_DConsole_i64, fun hs y h => by
  obtain ⟨h1, h2, h3, h4, rfl⟩ := len4 h
  exact (HL.tup (es1 := [.own true 1 h1 (Sl.t (y.1.Input : Sl ByteArray)), .own true 1 h2 (Sl.t (y.1.Output : Sl ByteArray)), .own true 4 h3 (Sl.t (y.1.Files : Sl DFile)), .own true 1 h4 (Sl.t (y.1.Trace : Sl ByteArray))]) (es2 := []) (HL.agg (es1 := [.own true 1 h1 (Sl.t (y.1.Input : Sl ByteArray)), .own true 1 h2 (Sl.t (y.1.Output : Sl ByteArray)), .own true 4 h3 (Sl.t (y.1.Files : Sl DFile)), .own true 1 h4 (Sl.t (y.1.Trace : Sl ByteArray))]) (es2 := []) (HL.own rfl (HL.leaf (fun σ d => by simp) (HL.own rfl (HL.own rfl (HL.own rfl HL.nil))))) (HL.leaf (fun σ d => by simp) HL.nil)) HL.nil), E_t2_DConsole_i64_inj⟩
noncomputable def Sh_DConsole : Shape DConsole := ⟨4, fun hs y => match hs with | [h1, h2, h3, h4] => .agg [h1, i4 y.At, h2, h3, h4] | _ => .tup [], fun hs y => match hs with | [h1, h2, h3, h4] => [.own true 1 h1 (Sl.t (y.Input : Sl ByteArray)), .own true 1 h2 (Sl.t (y.Output : Sl ByteArray)), .own true 4 h3 (Sl.t (y.Files : Sl DFile)), .own true 1 h4 (Sl.t (y.Trace : Sl ByteArray))] | _ => [], E_DConsole, fun hs y h => by
  obtain ⟨h1, h2, h3, h4, rfl⟩ := len4 h
  exact (HL.agg (es1 := [.own true 1 h1 (Sl.t (y.Input : Sl ByteArray)), .own true 1 h2 (Sl.t (y.Output : Sl ByteArray)), .own true 4 h3 (Sl.t (y.Files : Sl DFile)), .own true 1 h4 (Sl.t (y.Trace : Sl ByteArray))]) (es2 := []) (HL.own rfl (HL.leaf (fun σ d => by simp) (HL.own rfl (HL.own rfl (HL.own rfl HL.nil))))) HL.nil), E_DConsole_inj⟩
noncomputable def Sh_sl_str : Shape (Sl ByteArray) := ⟨1, fun hs y => match hs with | [h1] => h1 | _ => .tup [], fun hs y => match hs with | [h1] => [.own true 1 h1 (Sl.t (y : Sl ByteArray))] | _ => [], E_sl_str, fun hs y h => by
  obtain ⟨h1, rfl⟩ := len1 h
  exact (HL.own rfl HL.nil), E_sl_str_inj⟩
noncomputable def Sh_sl_DFile : Shape (Sl DFile) := ⟨1, fun hs y => match hs with | [h1] => h1 | _ => .tup [], fun hs y => match hs with | [h1] => [.own true 4 h1 (Sl.t (y : Sl DFile))] | _ => [], E_sl_DFile, fun hs y h => by
  obtain ⟨h1, rfl⟩ := len1 h
  exact (HL.own rfl HL.nil), E_sl_DFile_inj⟩
noncomputable def Sh_DFile : Shape DFile := ⟨1, fun hs y => match hs with | [h1] => .agg [.str y.Name, h1, i4 y.Mode, i4 y.At] | _ => .tup [], fun hs y => match hs with | [h1] => [.own true 1 h1 (Sl.t (y.Lines : Sl ByteArray))] | _ => [], E_DFile, fun hs y h => by
  obtain ⟨h1, rfl⟩ := len1 h
  exact (HL.agg (es1 := [.own true 1 h1 (Sl.t (y.Lines : Sl ByteArray))]) (es2 := []) (HL.leaf (fun σ d => by simp) (HL.own rfl (HL.leaf (fun σ d => by simp) (HL.leaf (fun σ d => by simp) HL.nil)))) HL.nil), E_DFile_inj⟩
noncomputable def F_laws_FnExactAddTrace (a0 : DConsole) (a1 : Int) (a2 : Int) (a3 : ByteArray) (a4 : DValue) : Option Bool := semV Tryz.prog md ext E_bool 3 [(.agg (DConsole.cells a0)), (i4 a1), (i4 a2), (.str a3), (.agg (DValue.cells a4))]
noncomputable def F_laws_szConsole (a0 : DConsole) (a1 : Int) : Option Int := semV Tryz.prog md ext E_i64 4 [(.agg (DConsole.cells a0)), (i4 a1)]
noncomputable def F_laws_szValue (a0 : DValue) (a1 : Int) : Option Int := semV Tryz.prog md ext E_i64 5 [(.agg (DValue.cells a0)), (i4 a1)]
noncomputable def F_spec_AddTrace (a0 : DConsole) (a1 : Int) (a2 : Int) (a3 : ByteArray) (a4 : DValue) : Option (DConsole × Int) := semO Tryz.prog md ext Sh_t2_DConsole_i64 6 [(.agg (DConsole.cells a0)), (i4 a1), (i4 a2), (.str a3), (.agg (DValue.cells a4))]
noncomputable def F_laws_toConsole (a0 : DConsole) : Option DConsole := semO Tryz.prog md ext Sh_DConsole 7 [(.agg (DConsole.cells a0))]
noncomputable def F_laws_toValue (a0 : DValue) : Option DValue := semV Tryz.prog md ext E_DValue 8 [(.agg (DValue.cells a0))]
noncomputable def F_impl_AddTrace (a0 : DConsole) (a1 : Int) (a2 : Int) (a3 : ByteArray) (a4 : DValue) : Option (DConsole × Int) := semO Tryz.prog md ext Sh_t2_DConsole_i64 9 [(.agg (DConsole.cells a0)), (i4 a1), (i4 a2), (.str a3), (.agg (DValue.cells a4))]
noncomputable def F_laws_eqConsole (a0 : DConsole) (a1 : DConsole) : Option Bool := semV Tryz.prog md ext E_bool 10 [(.agg (DConsole.cells a0)), (.agg (DConsole.cells a1))]
noncomputable def F_laws_heldConsole (a0 : DConsole) (a1 : Int) : Option Int := semV Tryz.prog md ext E_i64 12 [(.agg (DConsole.cells a0)), (i4 a1)]
noncomputable def F_laws_szStringS (a0 : (Sl ByteArray)) (a1 : Int) : Option Int := semV Tryz.prog md ext E_i64 13 [(a0.t), (i4 a1)]
noncomputable def F_laws_szFileS (a0 : (Sl DFile)) (a1 : Int) : Option Int := semV Tryz.prog md ext E_i64 14 [(a0.t), (i4 a1)]
noncomputable def F_spec_TraceText (a0 : Int) (a1 : Int) (a2 : ByteArray) (a3 : DValue) : Option ByteArray := semV Tryz.prog md ext E_str 15 [(i4 a0), (i4 a1), (.str a2), (.agg (DValue.cells a3))]
noncomputable def F_spec_l21Ok (a0 : DConsole) : Option Bool := semL Tryz.prog md ext E_bool 16 (fun bs => match bs with | [bp0] => [(.ptr bp0 0 0 5)] | _ => []) [DConsole.cells a0]
noncomputable def F_spec_l21Own (a0 : DConsole) : Option DConsole := semLO Tryz.prog md ext Sh_DConsole 17 (fun bs => match bs with | [bp0] => [(.ptr bp0 0 0 5)] | _ => []) [DConsole.cells a0]
noncomputable def F_laws_toStringS (a0 : (Sl ByteArray)) : Option (Sl ByteArray) := semO Tryz.prog md ext Sh_sl_str 18 [(a0.t)]
noncomputable def F_laws_toFileS (a0 : (Sl DFile)) : Option (Sl DFile) := semO Tryz.prog md ext Sh_sl_DFile 19 [(a0.t)]
noncomputable def F_impl_TraceText (a0 : Int) (a1 : Int) (a2 : ByteArray) (a3 : DValue) : Option ByteArray := semV Tryz.prog md ext E_str 20 [(i4 a0), (i4 a1), (.str a2), (.agg (DValue.cells a3))]
noncomputable def F_impl_ValidConsole (a0 : DConsole) : Option Bool := semV Tryz.prog md ext E_bool 21 [(.agg (DConsole.cells a0))]
noncomputable def F_impl_Console_copied (a0 : DConsole) : Option DConsole := semO Tryz.prog md ext Sh_DConsole 22 [(.agg (DConsole.cells a0))]
noncomputable def F_laws_eqStringS (a0 : (Sl ByteArray)) (a1 : (Sl ByteArray)) : Option Bool := semV Tryz.prog md ext E_bool 24 [(a0.t), (a1.t)]
noncomputable def F_laws_eqFileS (a0 : (Sl DFile)) (a1 : (Sl DFile)) : Option Bool := semV Tryz.prog md ext E_bool 25 [(a0.t), (a1.t)]
noncomputable def F_laws_heldStringS (a0 : (Sl ByteArray)) (a1 : Int) : Option Int := semV Tryz.prog md ext E_i64 28 [(a0.t), (i4 a1)]
noncomputable def F_laws_heldFileS (a0 : (Sl DFile)) (a1 : Int) : Option Int := semV Tryz.prog md ext E_i64 29 [(a0.t), (i4 a1)]
noncomputable def F_laws_szFile (a0 : DFile) (a1 : Int) : Option Int := semV Tryz.prog md ext E_i64 30 [(.agg (DFile.cells a0)), (i4 a1)]
noncomputable def F_spec_l00In (a0 : Int) (a1 : Int) (a2 : Int) : Option Bool := semV Tryz.prog md ext E_bool 31 [(i4 a0), (i4 a1), (i4 a2)]
noncomputable def F_spec_IsName (a0 : ByteArray) : Option Bool := semV Tryz.prog md ext E_bool 32 [(.str a0)]
noncomputable def F_spec_ValidValue (a0 : DValue) : Option Bool := semV Tryz.prog md ext E_bool 33 [(.agg (DValue.cells a0))]
noncomputable def F_spec_l06Digits (a0 : Int) : Option ByteArray := semV Tryz.prog md ext E_str 34 [(i4 a0)]
noncomputable def F_spec_ValueText (a0 : DValue) : Option ByteArray := semV Tryz.prog md ext E_str 35 [(.agg (DValue.cells a0))]
noncomputable def F_spec_l21Lines (a0 : (Sl ByteArray)) (a1 : Int) (a2 : Int) : Option Bool := semV Tryz.prog md ext E_bool 36 [(a0.t), (i4 a1), (i4 a2)]
noncomputable def F_spec_l21File (a0 : DFile) : Option Bool := semV Tryz.prog md ext E_bool 37 [(.agg (DFile.cells a0))]
noncomputable def F_spec_l21Texts (a0 : (Sl ByteArray)) : Option (Sl ByteArray) := semO Tryz.prog md ext Sh_sl_str 38 [(a0.t)]
noncomputable def F_laws_toFile (a0 : DFile) : Option DFile := semO Tryz.prog md ext Sh_DFile 39 [(.agg (DFile.cells a0))]
noncomputable def F_impl_within (a0 : Int) (a1 : Int) (a2 : Int) : Option Bool := semV Tryz.prog md ext E_bool 40 [(i4 a0), (i4 a1), (i4 a2)]
noncomputable def F_impl_IsName (a0 : ByteArray) : Option Bool := semV Tryz.prog md ext E_bool 41 [(.str a0)]
noncomputable def F_impl_ValidValue (a0 : DValue) : Option Bool := semV Tryz.prog md ext E_bool 42 [(.agg (DValue.cells a0))]
noncomputable def F_impl_decimal (a0 : Int) : Option ByteArray := semV Tryz.prog md ext E_str 43 [(i4 a0)]
noncomputable def F_impl_Value_text (a0 : DValue) : Option ByteArray := semV Tryz.prog md ext E_str 44 [(.agg (DValue.cells a0))]
noncomputable def F_impl_ValidConsole_1 (a0 : ByteArray) : Option Bool := semV Tryz.prog md ext E_bool 45 [(.str a0)]
noncomputable def F_impl_areAll_string (a0 : (Sl ByteArray)) (a1 : T) : Option Bool := semV Tryz.prog md ext E_bool 46 [(a0.t), (a1)]
noncomputable def F_impl_isShort (a0 : ByteArray) : Option Bool := semV Tryz.prog md ext E_bool 47 [(.str a0)]
noncomputable def F_impl_areAll_File (a0 : (Sl DFile)) (a1 : T) : Option Bool := semV Tryz.prog md ext E_bool 48 [(a0.t), (a1)]
noncomputable def F_impl_File_isValid (a0 : DFile) : Option Bool := semV Tryz.prog md ext E_bool 49 [(.agg (DFile.cells a0))]
noncomputable def F_impl_isSorted_File (a0 : (Sl DFile)) (a1 : T) : Option Bool := semV Tryz.prog md ext E_bool 50 [(a0.t), (a1)]
noncomputable def F_impl_nameOfFile (a0 : DFile) : Option ByteArray := semV Tryz.prog md ext E_str 51 [(.agg (DFile.cells a0))]
noncomputable def F_slices_Clone_string (a0 : (Sl ByteArray)) : Option (Sl ByteArray) := semO Tryz.prog md ext Sh_sl_str 52 [(a0.t)]
noncomputable def F_laws_eqFile (a0 : DFile) (a1 : DFile) : Option Bool := semV Tryz.prog md ext E_bool 53 [(.agg (DFile.cells a0)), (.agg (DFile.cells a1))]
noncomputable def F_laws_markText (a0 : Int) : Option ByteArray := semV Tryz.prog md ext E_str 54 [(i4 a0)]
noncomputable def F_spec_l02NameEnd (a0 : ByteArray) (a1 : Int) : Option Int := semV Tryz.prog md ext E_i64 55 [(.str a0), (i4 a1)]
noncomputable def F_spec_l06Plain (a0 : DValue) (a1 : Bool) (a2 : Bool) (a3 : Bool) : Option Bool := semV Tryz.prog md ext E_bool 56 [(.agg (DValue.cells a0)), (.bool a1), (.bool a2), (.bool a3)]
noncomputable def F_spec_QuoteText (a0 : ByteArray) : Option ByteArray := semV Tryz.prog md ext E_str 57 [(.str a0)]
noncomputable def F_spec_DataType (a0 : DValue) : Option ByteArray := semV Tryz.prog md ext E_str 58 [(.agg (DValue.cells a0))]
noncomputable def F_impl_isLetter (a0 : Int) : Option Bool := semV Tryz.prog md ext E_bool 59 [(.int .u8 a0)]
noncomputable def F_impl_areAll_byte (a0 : (Sl (Iv .u8))) (a1 : T) : Option Bool := semV Tryz.prog md ext E_bool 60 [(a0.t), (a1)]
noncomputable def F_impl_isNameByte (a0 : Int) : Option Bool := semV Tryz.prog md ext E_bool 61 [(.int .u8 a0)]
noncomputable def F_impl_isObjectId (a0 : Int) : Option Bool := semV Tryz.prog md ext E_bool 62 [(i4 a0)]
noncomputable def F_impl_QuoteText (a0 : ByteArray) : Option ByteArray := semV Tryz.prog md ext E_str 64 [(.str a0)]
noncomputable def F_impl_isMode (a0 : Int) : Option Bool := semV Tryz.prog md ext E_bool 66 [(i4 a0)]
noncomputable def F_spec_l02Letter (a0 : Int) : Option Bool := semV Tryz.prog md ext E_bool 67 [(.int .u8 a0)]
noncomputable def F_spec_l02Digit (a0 : Int) : Option Bool := semV Tryz.prog md ext E_bool 68 [(.int .u8 a0)]
noncomputable def F_impl_isDigit (a0 : Int) : Option Bool := semV Tryz.prog md ext E_bool 69 [(.int .u8 a0)]
theorem ext_x : XOk ext := by
 intro f g h1
 unfold ext at h1
 cases h63 : Nat.beq f 63 with
 | true => rw [h63] at h1; have h1 : some fmtE = some g := h1; injection h1 with h1; subst h1; exact fmt_x
 | false =>
 rw [h63] at h1
 simp only [cond_false] at h1
 cases h65 : Nat.beq f 65 with
 | true => rw [h65] at h1; have h1 : some (numE tynB) = some g := h1; injection h1 with h1; subst h1; exact (num_x tynB)
 | false =>
 rw [h65] at h1
 simp only [cond_false] at h1
 cases h71 : Nat.beq f 71 with
 | true => rw [h71] at h1; have h1 : some repE = some g := h1; injection h1 with h1; subst h1; exact rep_x
 | false =>
 rw [h71] at h1
 simp only [cond_false] at h1
 cases h1
noncomputable def F_strconv_FormatInt (a0 : Int) (a1 : Int) : Option ByteArray := semV Tryz.prog md ext E_str 63 [(i4 a0), (i4 a1)]
noncomputable def B_strconv_FormatInt (a0 : Int) (a1 : Int) : Option ByteArray := fmtB a0 a1
theorem u_strconv_FormatInt (a0 : Int) (a1 : Int) (r : ByteArray) (h : B_strconv_FormatInt a0 a1 = some r) : F_strconv_FormatInt a0 a1 = some r := sem_fmt E_str_inj rfl rfl h fun _ => rfl
noncomputable def F_impl_typeName (a0 : Int) : Option ByteArray := semV Tryz.prog md ext E_str 65 [(i4 a0)]
noncomputable def B_impl_typeName (a0 : Int) : Option ByteArray := tynB a0
theorem u_impl_typeName (a0 : Int) (r : ByteArray) (h : B_impl_typeName a0 = some r) : F_impl_typeName a0 = some r := sem_num E_str_inj rfl rfl h fun _ => rfl
noncomputable def F_strings_ReplaceAll (a0 : ByteArray) (a1 : ByteArray) (a2 : ByteArray) : Option ByteArray := semV Tryz.prog md ext E_str 71 [(.str a0), (.str a1), (.str a2)]
noncomputable def B_strings_ReplaceAll (a0 : ByteArray) (a1 : ByteArray) (a2 : ByteArray) : Option ByteArray := repB a0 a1 a2
theorem u_strings_ReplaceAll (a0 : ByteArray) (a1 : ByteArray) (a2 : ByteArray) (r : ByteArray) (h : B_strings_ReplaceAll a0 a1 a2 = some r) : F_strings_ReplaceAll a0 a1 a2 = some r := sem_rep E_str_inj rfl rfl h fun _ => rfl
theorem ext_ok : ∀ f g args σ r σ', ext f = some g → g args σ = some (r, σ') → SCall Tryz.prog f args σ r σ' := by
 intro f g args σ r σ' h1 h2
 unfold ext at h1
 cases h63 : Nat.beq f 63 with
 | true => have e := Nat.eq_of_beq_eq_true h63; rw [h63] at h1; have h1 : some fmtE = some g := h1; injection h1 with h1; subst h1; subst e; exact fmt_ok Tryz.laysM173 (by kernel_rfl) args σ r σ' h2
 | false =>
 rw [h63] at h1
 simp only [cond_false] at h1
 cases h65 : Nat.beq f 65 with
 | true => have e := Nat.eq_of_beq_eq_true h65; rw [h65] at h1; have h1 : some (numE tynB) = some g := h1; injection h1 with h1; subst h1; subst e; exact num_ok (Enter.of_ok (c := Tryz.f65.body.getD .skip) (n := Tryz.f65.ntmps) (rs := Tryz.f65.results.toList) ⟨Tryz.f65, by kernel_rfl, by kernel_rfl, by kernel_rfl, by kernel_rfl, rfl, rfl⟩) Tryz.tyn args σ r σ' h2
 | false =>
 rw [h65] at h1
 simp only [cond_false] at h1
 cases h71 : Nat.beq f 71 with
 | true => have e := Nat.eq_of_beq_eq_true h71; rw [h71] at h1; have h1 : some repE = some g := h1; injection h1 with h1; subst h1; subst e; exact rep_ok Tryz.lays155 Tryz.bx155 (by kernel_rfl) args σ r σ' h2
 | false =>
 rw [h71] at h1
 simp only [cond_false] at h1
 cases h1
theorem ok_3 : Ok Tryz.prog 3 (Tryz.f3.body.getD .skip) Tryz.f3.ntmps Tryz.f3.results.toList := ⟨Tryz.f3, by kernel_rfl, by kernel_rfl, by kernel_rfl, by kernel_rfl, rfl, rfl⟩
theorem ok_4 : Ok Tryz.prog 4 (Tryz.f4.body.getD .skip) Tryz.f4.ntmps Tryz.f4.results.toList := ⟨Tryz.f4, by kernel_rfl, by kernel_rfl, by kernel_rfl, by kernel_rfl, rfl, rfl⟩
theorem ok_5 : Ok Tryz.prog 5 (Tryz.f5.body.getD .skip) Tryz.f5.ntmps Tryz.f5.results.toList := ⟨Tryz.f5, by kernel_rfl, by kernel_rfl, by kernel_rfl, by kernel_rfl, rfl, rfl⟩
theorem ok_6 : Ok Tryz.prog 6 (Tryz.f6.body.getD .skip) Tryz.f6.ntmps Tryz.f6.results.toList := ⟨Tryz.f6, by kernel_rfl, by kernel_rfl, by kernel_rfl, by kernel_rfl, rfl, rfl⟩
theorem ok_7 : Ok Tryz.prog 7 (Tryz.f7.body.getD .skip) Tryz.f7.ntmps Tryz.f7.results.toList := ⟨Tryz.f7, by kernel_rfl, by kernel_rfl, by kernel_rfl, by kernel_rfl, rfl, rfl⟩
theorem ok_8 : Ok Tryz.prog 8 (Tryz.f8.body.getD .skip) Tryz.f8.ntmps Tryz.f8.results.toList := ⟨Tryz.f8, by kernel_rfl, by kernel_rfl, by kernel_rfl, by kernel_rfl, rfl, rfl⟩
theorem ok_9 : Ok Tryz.prog 9 (Tryz.f9.body.getD .skip) Tryz.f9.ntmps Tryz.f9.results.toList := ⟨Tryz.f9, by kernel_rfl, by kernel_rfl, by kernel_rfl, by kernel_rfl, rfl, rfl⟩
theorem ok_10 : Ok Tryz.prog 10 (Tryz.f10.body.getD .skip) Tryz.f10.ntmps Tryz.f10.results.toList := ⟨Tryz.f10, by kernel_rfl, by kernel_rfl, by kernel_rfl, by kernel_rfl, rfl, rfl⟩
theorem ok_11 : Ok Tryz.prog 11 (Tryz.f11.body.getD .skip) Tryz.f11.ntmps Tryz.f11.results.toList := ⟨Tryz.f11, by kernel_rfl, by kernel_rfl, by kernel_rfl, by kernel_rfl, rfl, rfl⟩
theorem ok_12 : Ok Tryz.prog 12 (Tryz.f12.body.getD .skip) Tryz.f12.ntmps Tryz.f12.results.toList := ⟨Tryz.f12, by kernel_rfl, by kernel_rfl, by kernel_rfl, by kernel_rfl, rfl, rfl⟩
theorem ok_13 : Ok Tryz.prog 13 (Tryz.f13.body.getD .skip) Tryz.f13.ntmps Tryz.f13.results.toList := ⟨Tryz.f13, by kernel_rfl, by kernel_rfl, by kernel_rfl, by kernel_rfl, rfl, rfl⟩
theorem ok_14 : Ok Tryz.prog 14 (Tryz.f14.body.getD .skip) Tryz.f14.ntmps Tryz.f14.results.toList := ⟨Tryz.f14, by kernel_rfl, by kernel_rfl, by kernel_rfl, by kernel_rfl, rfl, rfl⟩
theorem ok_15 : Ok Tryz.prog 15 (Tryz.f15.body.getD .skip) Tryz.f15.ntmps Tryz.f15.results.toList := ⟨Tryz.f15, by kernel_rfl, by kernel_rfl, by kernel_rfl, by kernel_rfl, rfl, rfl⟩
theorem ok_16 : Ok Tryz.prog 16 (Tryz.f16.body.getD .skip) Tryz.f16.ntmps Tryz.f16.results.toList := ⟨Tryz.f16, by kernel_rfl, by kernel_rfl, by kernel_rfl, by kernel_rfl, rfl, rfl⟩
theorem ok_17 : Ok Tryz.prog 17 (Tryz.f17.body.getD .skip) Tryz.f17.ntmps Tryz.f17.results.toList := ⟨Tryz.f17, by kernel_rfl, by kernel_rfl, by kernel_rfl, by kernel_rfl, rfl, rfl⟩
theorem ok_18 : Ok Tryz.prog 18 (Tryz.f18.body.getD .skip) Tryz.f18.ntmps Tryz.f18.results.toList := ⟨Tryz.f18, by kernel_rfl, by kernel_rfl, by kernel_rfl, by kernel_rfl, rfl, rfl⟩
theorem ok_19 : Ok Tryz.prog 19 (Tryz.f19.body.getD .skip) Tryz.f19.ntmps Tryz.f19.results.toList := ⟨Tryz.f19, by kernel_rfl, by kernel_rfl, by kernel_rfl, by kernel_rfl, rfl, rfl⟩
theorem ok_20 : Ok Tryz.prog 20 (Tryz.f20.body.getD .skip) Tryz.f20.ntmps Tryz.f20.results.toList := ⟨Tryz.f20, by kernel_rfl, by kernel_rfl, by kernel_rfl, by kernel_rfl, rfl, rfl⟩
theorem ok_21 : Ok Tryz.prog 21 (Tryz.f21.body.getD .skip) Tryz.f21.ntmps Tryz.f21.results.toList := ⟨Tryz.f21, by kernel_rfl, by kernel_rfl, by kernel_rfl, by kernel_rfl, rfl, rfl⟩
theorem ok_22 : Ok Tryz.prog 22 (Tryz.f22.body.getD .skip) Tryz.f22.ntmps Tryz.f22.results.toList := ⟨Tryz.f22, by kernel_rfl, by kernel_rfl, by kernel_rfl, by kernel_rfl, rfl, rfl⟩
theorem ok_23 : Ok Tryz.prog 23 (Tryz.f23.body.getD .skip) Tryz.f23.ntmps Tryz.f23.results.toList := ⟨Tryz.f23, by kernel_rfl, by kernel_rfl, by kernel_rfl, by kernel_rfl, rfl, rfl⟩
theorem ok_24 : Ok Tryz.prog 24 (Tryz.f24.body.getD .skip) Tryz.f24.ntmps Tryz.f24.results.toList := ⟨Tryz.f24, by kernel_rfl, by kernel_rfl, by kernel_rfl, by kernel_rfl, rfl, rfl⟩
theorem ok_25 : Ok Tryz.prog 25 (Tryz.f25.body.getD .skip) Tryz.f25.ntmps Tryz.f25.results.toList := ⟨Tryz.f25, by kernel_rfl, by kernel_rfl, by kernel_rfl, by kernel_rfl, rfl, rfl⟩
theorem ok_26 : Ok Tryz.prog 26 (Tryz.f26.body.getD .skip) Tryz.f26.ntmps Tryz.f26.results.toList := ⟨Tryz.f26, by kernel_rfl, by kernel_rfl, by kernel_rfl, by kernel_rfl, rfl, rfl⟩
theorem ok_27 : Ok Tryz.prog 27 (Tryz.f27.body.getD .skip) Tryz.f27.ntmps Tryz.f27.results.toList := ⟨Tryz.f27, by kernel_rfl, by kernel_rfl, by kernel_rfl, by kernel_rfl, rfl, rfl⟩
theorem ok_28 : Ok Tryz.prog 28 (Tryz.f28.body.getD .skip) Tryz.f28.ntmps Tryz.f28.results.toList := ⟨Tryz.f28, by kernel_rfl, by kernel_rfl, by kernel_rfl, by kernel_rfl, rfl, rfl⟩
theorem ok_29 : Ok Tryz.prog 29 (Tryz.f29.body.getD .skip) Tryz.f29.ntmps Tryz.f29.results.toList := ⟨Tryz.f29, by kernel_rfl, by kernel_rfl, by kernel_rfl, by kernel_rfl, rfl, rfl⟩
theorem ok_30 : Ok Tryz.prog 30 (Tryz.f30.body.getD .skip) Tryz.f30.ntmps Tryz.f30.results.toList := ⟨Tryz.f30, by kernel_rfl, by kernel_rfl, by kernel_rfl, by kernel_rfl, rfl, rfl⟩
theorem ok_31 : Ok Tryz.prog 31 (Tryz.f31.body.getD .skip) Tryz.f31.ntmps Tryz.f31.results.toList := ⟨Tryz.f31, by kernel_rfl, by kernel_rfl, by kernel_rfl, by kernel_rfl, rfl, rfl⟩
theorem ok_32 : Ok Tryz.prog 32 (Tryz.f32.body.getD .skip) Tryz.f32.ntmps Tryz.f32.results.toList := ⟨Tryz.f32, by kernel_rfl, by kernel_rfl, by kernel_rfl, by kernel_rfl, rfl, rfl⟩
theorem ok_33 : Ok Tryz.prog 33 (Tryz.f33.body.getD .skip) Tryz.f33.ntmps Tryz.f33.results.toList := ⟨Tryz.f33, by kernel_rfl, by kernel_rfl, by kernel_rfl, by kernel_rfl, rfl, rfl⟩
theorem ok_34 : Ok Tryz.prog 34 (Tryz.f34.body.getD .skip) Tryz.f34.ntmps Tryz.f34.results.toList := ⟨Tryz.f34, by kernel_rfl, by kernel_rfl, by kernel_rfl, by kernel_rfl, rfl, rfl⟩
theorem ok_35 : Ok Tryz.prog 35 (Tryz.f35.body.getD .skip) Tryz.f35.ntmps Tryz.f35.results.toList := ⟨Tryz.f35, by kernel_rfl, by kernel_rfl, by kernel_rfl, by kernel_rfl, rfl, rfl⟩
theorem ok_36 : Ok Tryz.prog 36 (Tryz.f36.body.getD .skip) Tryz.f36.ntmps Tryz.f36.results.toList := ⟨Tryz.f36, by kernel_rfl, by kernel_rfl, by kernel_rfl, by kernel_rfl, rfl, rfl⟩
theorem ok_37 : Ok Tryz.prog 37 (Tryz.f37.body.getD .skip) Tryz.f37.ntmps Tryz.f37.results.toList := ⟨Tryz.f37, by kernel_rfl, by kernel_rfl, by kernel_rfl, by kernel_rfl, rfl, rfl⟩
theorem ok_38 : Ok Tryz.prog 38 (Tryz.f38.body.getD .skip) Tryz.f38.ntmps Tryz.f38.results.toList := ⟨Tryz.f38, by kernel_rfl, by kernel_rfl, by kernel_rfl, by kernel_rfl, rfl, rfl⟩
theorem ok_39 : Ok Tryz.prog 39 (Tryz.f39.body.getD .skip) Tryz.f39.ntmps Tryz.f39.results.toList := ⟨Tryz.f39, by kernel_rfl, by kernel_rfl, by kernel_rfl, by kernel_rfl, rfl, rfl⟩
theorem ok_40 : Ok Tryz.prog 40 (Tryz.f40.body.getD .skip) Tryz.f40.ntmps Tryz.f40.results.toList := ⟨Tryz.f40, by kernel_rfl, by kernel_rfl, by kernel_rfl, by kernel_rfl, rfl, rfl⟩
theorem ok_41 : Ok Tryz.prog 41 (Tryz.f41.body.getD .skip) Tryz.f41.ntmps Tryz.f41.results.toList := ⟨Tryz.f41, by kernel_rfl, by kernel_rfl, by kernel_rfl, by kernel_rfl, rfl, rfl⟩
theorem ok_42 : Ok Tryz.prog 42 (Tryz.f42.body.getD .skip) Tryz.f42.ntmps Tryz.f42.results.toList := ⟨Tryz.f42, by kernel_rfl, by kernel_rfl, by kernel_rfl, by kernel_rfl, rfl, rfl⟩
theorem ok_43 : Ok Tryz.prog 43 (Tryz.f43.body.getD .skip) Tryz.f43.ntmps Tryz.f43.results.toList := ⟨Tryz.f43, by kernel_rfl, by kernel_rfl, by kernel_rfl, by kernel_rfl, rfl, rfl⟩
theorem ok_44 : Ok Tryz.prog 44 (Tryz.f44.body.getD .skip) Tryz.f44.ntmps Tryz.f44.results.toList := ⟨Tryz.f44, by kernel_rfl, by kernel_rfl, by kernel_rfl, by kernel_rfl, rfl, rfl⟩
theorem ok_45 : Ok Tryz.prog 45 (Tryz.f45.body.getD .skip) Tryz.f45.ntmps Tryz.f45.results.toList := ⟨Tryz.f45, by kernel_rfl, by kernel_rfl, by kernel_rfl, by kernel_rfl, rfl, rfl⟩
theorem ok_46 : Ok Tryz.prog 46 (Tryz.f46.body.getD .skip) Tryz.f46.ntmps Tryz.f46.results.toList := ⟨Tryz.f46, by kernel_rfl, by kernel_rfl, by kernel_rfl, by kernel_rfl, rfl, rfl⟩
theorem ok_47 : Ok Tryz.prog 47 (Tryz.f47.body.getD .skip) Tryz.f47.ntmps Tryz.f47.results.toList := ⟨Tryz.f47, by kernel_rfl, by kernel_rfl, by kernel_rfl, by kernel_rfl, rfl, rfl⟩
theorem ok_48 : Ok Tryz.prog 48 (Tryz.f48.body.getD .skip) Tryz.f48.ntmps Tryz.f48.results.toList := ⟨Tryz.f48, by kernel_rfl, by kernel_rfl, by kernel_rfl, by kernel_rfl, rfl, rfl⟩
theorem ok_49 : Ok Tryz.prog 49 (Tryz.f49.body.getD .skip) Tryz.f49.ntmps Tryz.f49.results.toList := ⟨Tryz.f49, by kernel_rfl, by kernel_rfl, by kernel_rfl, by kernel_rfl, rfl, rfl⟩
theorem ok_50 : Ok Tryz.prog 50 (Tryz.f50.body.getD .skip) Tryz.f50.ntmps Tryz.f50.results.toList := ⟨Tryz.f50, by kernel_rfl, by kernel_rfl, by kernel_rfl, by kernel_rfl, rfl, rfl⟩
theorem ok_51 : Ok Tryz.prog 51 (Tryz.f51.body.getD .skip) Tryz.f51.ntmps Tryz.f51.results.toList := ⟨Tryz.f51, by kernel_rfl, by kernel_rfl, by kernel_rfl, by kernel_rfl, rfl, rfl⟩
theorem ok_52 : Ok Tryz.prog 52 (Tryz.f52.body.getD .skip) Tryz.f52.ntmps Tryz.f52.results.toList := ⟨Tryz.f52, by kernel_rfl, by kernel_rfl, by kernel_rfl, by kernel_rfl, rfl, rfl⟩
theorem ok_53 : Ok Tryz.prog 53 (Tryz.f53.body.getD .skip) Tryz.f53.ntmps Tryz.f53.results.toList := ⟨Tryz.f53, by kernel_rfl, by kernel_rfl, by kernel_rfl, by kernel_rfl, rfl, rfl⟩
theorem ok_54 : Ok Tryz.prog 54 (Tryz.f54.body.getD .skip) Tryz.f54.ntmps Tryz.f54.results.toList := ⟨Tryz.f54, by kernel_rfl, by kernel_rfl, by kernel_rfl, by kernel_rfl, rfl, rfl⟩
theorem ok_55 : Ok Tryz.prog 55 (Tryz.f55.body.getD .skip) Tryz.f55.ntmps Tryz.f55.results.toList := ⟨Tryz.f55, by kernel_rfl, by kernel_rfl, by kernel_rfl, by kernel_rfl, rfl, rfl⟩
theorem ok_56 : Ok Tryz.prog 56 (Tryz.f56.body.getD .skip) Tryz.f56.ntmps Tryz.f56.results.toList := ⟨Tryz.f56, by kernel_rfl, by kernel_rfl, by kernel_rfl, by kernel_rfl, rfl, rfl⟩
theorem ok_57 : Ok Tryz.prog 57 (Tryz.f57.body.getD .skip) Tryz.f57.ntmps Tryz.f57.results.toList := ⟨Tryz.f57, by kernel_rfl, by kernel_rfl, by kernel_rfl, by kernel_rfl, rfl, rfl⟩
theorem ok_58 : Ok Tryz.prog 58 (Tryz.f58.body.getD .skip) Tryz.f58.ntmps Tryz.f58.results.toList := ⟨Tryz.f58, by kernel_rfl, by kernel_rfl, by kernel_rfl, by kernel_rfl, rfl, rfl⟩
theorem ok_59 : Ok Tryz.prog 59 (Tryz.f59.body.getD .skip) Tryz.f59.ntmps Tryz.f59.results.toList := ⟨Tryz.f59, by kernel_rfl, by kernel_rfl, by kernel_rfl, by kernel_rfl, rfl, rfl⟩
theorem ok_60 : Ok Tryz.prog 60 (Tryz.f60.body.getD .skip) Tryz.f60.ntmps Tryz.f60.results.toList := ⟨Tryz.f60, by kernel_rfl, by kernel_rfl, by kernel_rfl, by kernel_rfl, rfl, rfl⟩
theorem ok_61 : Ok Tryz.prog 61 (Tryz.f61.body.getD .skip) Tryz.f61.ntmps Tryz.f61.results.toList := ⟨Tryz.f61, by kernel_rfl, by kernel_rfl, by kernel_rfl, by kernel_rfl, rfl, rfl⟩
theorem ok_62 : Ok Tryz.prog 62 (Tryz.f62.body.getD .skip) Tryz.f62.ntmps Tryz.f62.results.toList := ⟨Tryz.f62, by kernel_rfl, by kernel_rfl, by kernel_rfl, by kernel_rfl, rfl, rfl⟩
theorem ok_64 : Ok Tryz.prog 64 (Tryz.f64.body.getD .skip) Tryz.f64.ntmps Tryz.f64.results.toList := ⟨Tryz.f64, by kernel_rfl, by kernel_rfl, by kernel_rfl, by kernel_rfl, rfl, rfl⟩
theorem ok_66 : Ok Tryz.prog 66 (Tryz.f66.body.getD .skip) Tryz.f66.ntmps Tryz.f66.results.toList := ⟨Tryz.f66, by kernel_rfl, by kernel_rfl, by kernel_rfl, by kernel_rfl, rfl, rfl⟩
theorem ok_67 : Ok Tryz.prog 67 (Tryz.f67.body.getD .skip) Tryz.f67.ntmps Tryz.f67.results.toList := ⟨Tryz.f67, by kernel_rfl, by kernel_rfl, by kernel_rfl, by kernel_rfl, rfl, rfl⟩
theorem ok_68 : Ok Tryz.prog 68 (Tryz.f68.body.getD .skip) Tryz.f68.ntmps Tryz.f68.results.toList := ⟨Tryz.f68, by kernel_rfl, by kernel_rfl, by kernel_rfl, by kernel_rfl, rfl, rfl⟩
theorem ok_69 : Ok Tryz.prog 69 (Tryz.f69.body.getD .skip) Tryz.f69.ntmps Tryz.f69.results.toList := ⟨Tryz.f69, by kernel_rfl, by kernel_rfl, by kernel_rfl, by kernel_rfl, rfl, rfl⟩
end Go.Am
end
