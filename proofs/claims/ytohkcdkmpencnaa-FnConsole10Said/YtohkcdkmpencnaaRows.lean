/-
  No cell of these rows narrows 'for every input' (looked for: loops, veiled, ifaces, maps, wideKeys, modest, calm, conditions, laid).
  DERIVED. THE GIVEN ROWS OF THIS SEAT. 4 by the template 'for every input the law returns true; each argument reads behind the call as it read before'; 0 by the template 'total and deterministic' (their statements: YtohkcdkmpencnaaTotals.lean).
  GIVEN WITH THE SEED: the statements are not yours to turn. If you find one false, say at which input.
  Laid BY PROGRAM, IN A SANDBOX (cutbox-rows.mjs): the forced cells as the released guide's own fill.sh prints them over the translation c242c707f389e3c5… (all of the seat's roots in one cut). By AI agents, Wed Nov 11 2026. No macro, syntax, notation, axiom, sorry.
-/
import Derived.Test.YtohkcdkmpencnaaChecked
import GoSem.Claim
import GoSem.ClaimJoined
import GoSem.ClaimMapViews
import Derived.JoinedTies
import Derived.KernelRfl
namespace Go.Proofs.Ytohkcdkmpencnaa
/- THE CELL 'sum', in the pinned program and in every row, IS THE sha256 OF THE DUMP (.gsa) THAT YtohkcdkmpencnaaProg.lean LOADS. Nothing in Lean hashes anything: it is a label: what it is worth is what the hold of that sum in a sandbox is worth. -/
noncomputable def Try.pinned : Pinned := { name := "ytohkcdkmpencnaa", sum := "c242c707f389e3c5ba10e9e95ea806db093e6b870d84abead7b474498e5f69ee", checked := Try.checked }
namespace Rows
def none {H : Type} : Left H := { results := [], args := [] }

/-- 'laws.FnConsole10': WHATEVER THE INPUT: true; the input reads as it did. -/
def fnConsole10Spec : ChangeSpec := { name := "fnConsole10", fn := fun _ => fun
  | [d] => { results := [.lit (.bool true)], args := [d] }
  | _ => none }
def fnConsole10Row : OpenClaim := { program := "ytohkcdkmpencnaa", sum := "c242c707f389e3c5ba10e9e95ea806db093e6b870d84abead7b474498e5f69ee", func := "loop.example/g00873/laws.FnConsole10", spec := "fnConsole10", unfollowed := true, recurses := true, apart := false }
def FnConsole10Said : Prop := fnConsole10Row.holds Try.pinned (OpenSpec.ofChange fnConsole10Spec)

/-- ITS FALSE NEIGHBOUR: 'it returns false'. Refute it at one input. -/
def fnConsole10Wrong : ChangeSpec := { name := "fnConsole10", fn := fun _ => fun
  | [d] => { results := [.lit (.bool false)], args := [d] }
  | _ => none }
def FnConsole10WrongFalsely : Prop := fnConsole10Row.holds Try.pinned (OpenSpec.ofChange fnConsole10Wrong)

/-- 'laws.FnFiles': WHATEVER THE INPUT: true; the input reads as it did. -/
def fnFilesSpec : ChangeSpec := { name := "fnFiles", fn := fun _ => fun
  | [d1, d2] => { results := [.lit (.bool true)], args := [d1, d2] }
  | _ => none }
def fnFilesRow : OpenClaim := { program := "ytohkcdkmpencnaa", sum := "c242c707f389e3c5ba10e9e95ea806db093e6b870d84abead7b474498e5f69ee", func := "loop.example/g00873/laws.FnFiles", spec := "fnFiles", inPlace := ["slices.overlaps[loop.example/g00873/impl.File]"], unfollowed := true, recurses := true, apart := false }
def FnFilesSaid : Prop := fnFilesRow.holds Try.pinned (OpenSpec.ofChange fnFilesSpec)

/-- ITS FALSE NEIGHBOUR: 'it returns false'. Refute it at one input. -/
def fnFilesWrong : ChangeSpec := { name := "fnFiles", fn := fun _ => fun
  | [d1, d2] => { results := [.lit (.bool false)], args := [d1, d2] }
  | _ => none }
def FnFilesWrongFalsely : Prop := fnFilesRow.holds Try.pinned (OpenSpec.ofChange fnFilesWrong)

/-- 'laws.FnExactDeleteFile': WHATEVER THE INPUT: true; the input reads as it did. -/
def fnExactDeleteFileSpec : ChangeSpec := { name := "fnExactDeleteFile", fn := fun _ => fun
  | [d1, d2] => { results := [.lit (.bool true)], args := [d1, d2] }
  | _ => none }
def fnExactDeleteFileRow : OpenClaim := { program := "ytohkcdkmpencnaa", sum := "c242c707f389e3c5ba10e9e95ea806db093e6b870d84abead7b474498e5f69ee", func := "loop.example/g00873/laws.FnExactDeleteFile", spec := "fnExactDeleteFile", unfollowed := true, recurses := true, apart := false }
def FnExactDeleteFileSaid : Prop := fnExactDeleteFileRow.holds Try.pinned (OpenSpec.ofChange fnExactDeleteFileSpec)

/-- ITS FALSE NEIGHBOUR: 'it returns false'. Refute it at one input. -/
def fnExactDeleteFileWrong : ChangeSpec := { name := "fnExactDeleteFile", fn := fun _ => fun
  | [d1, d2] => { results := [.lit (.bool false)], args := [d1, d2] }
  | _ => none }
def FnExactDeleteFileWrongFalsely : Prop := fnExactDeleteFileRow.holds Try.pinned (OpenSpec.ofChange fnExactDeleteFileWrong)

/-- 'laws.FnExactOpenFile': WHATEVER THE INPUT: true; the input reads as it did. -/
def fnExactOpenFileSpec : ChangeSpec := { name := "fnExactOpenFile", fn := fun _ => fun
  | [d1, d2, d3] => { results := [.lit (.bool true)], args := [d1, d2, d3] }
  | _ => none }
def fnExactOpenFileRow : OpenClaim := { program := "ytohkcdkmpencnaa", sum := "c242c707f389e3c5ba10e9e95ea806db093e6b870d84abead7b474498e5f69ee", func := "loop.example/g00873/laws.FnExactOpenFile", spec := "fnExactOpenFile", inPlace := ["slices.overlaps[loop.example/g00873/impl.File]"], unfollowed := true, recurses := true, apart := false }
def FnExactOpenFileSaid : Prop := fnExactOpenFileRow.holds Try.pinned (OpenSpec.ofChange fnExactOpenFileSpec)

/-- ITS FALSE NEIGHBOUR: 'it returns false'. Refute it at one input. -/
def fnExactOpenFileWrong : ChangeSpec := { name := "fnExactOpenFile", fn := fun _ => fun
  | [d1, d2, d3] => { results := [.lit (.bool false)], args := [d1, d2, d3] }
  | _ => none }
def FnExactOpenFileWrongFalsely : Prop := fnExactOpenFileRow.holds Try.pinned (OpenSpec.ofChange fnExactOpenFileWrong)

/- THE SECOND FORM. 'bulk': how many values and letters a reading holds, each counted each time it is reached (what is shared counts as often as it is met; a slice's spare places count too). A statement '..UptoSaid' is the law's where the arguments, and the package variables that the reading takes, are together of bulk at most 1048576: NARROWER than '..Said'. Prove '..Said' where nothing that the law and all that it calls make is longer than what came in: it says more and counts as full. Else prove '..UptoSaid'. A law counts once. -/
mutual
def uptoBulk {H : Type} : DataW H → Nat
  | .lit (.string bytes) => bytes.length + 1
  | .lit _ => 1
  | .nil => 1
  | .ptr d => uptoBulk d + 1
  | .slice elems spare => uptoBulkAll elems + uptoBulkAll spare + 1
  | .agg parts => uptoBulkAll parts + 1
  | .iface _ d => uptoBulk d + 1
  | .map entries => uptoBulkEntries entries + 1
  | .held _ => 1
def uptoBulkAll {H : Type} : List (DataW H) → Nat
  | [] => 0
  | d :: r => uptoBulk d + uptoBulkAll r
def uptoBulkEntries {H : Type} : List (Lit × DataW H) → Nat
  | [] => 0
  | x :: r => uptoBulkEntry x + uptoBulkEntries r
def uptoBulkEntry {H : Type} : Lit × DataW H → Nat
  | (.string bytes, d) => bytes.length + uptoBulk d + 1
  | (_, d) => uptoBulk d + 1
 end
def uptoSmall : (H : Type) → List (DataW H) → Bool := fun _ ds => decide (uptoBulkAll ds ≤ 1048576)
def OpenSpec.upto (s : _root_.Go.ChangeSpec) : _root_.Go.OpenSpec := { _root_.Go.OpenSpec.ofChange s with cond := some uptoSmall }

/-- 'laws.FnConsole10', WHERE WHAT IT READS IS OF BULK AT MOST 1048576: true; the input reads as it did. -/
def fnConsole10UptoRow : OpenClaim := { program := "ytohkcdkmpencnaa", sum := "c242c707f389e3c5ba10e9e95ea806db093e6b870d84abead7b474498e5f69ee", func := "loop.example/g00873/laws.FnConsole10", spec := "fnConsole10", unfollowed := true, recurses := true, apart := false, narrowed := true }
def FnConsole10UptoSaid : Prop := fnConsole10UptoRow.holds Try.pinned (OpenSpec.upto fnConsole10Spec)

/-- 'laws.FnFiles', WHERE WHAT IT READS IS OF BULK AT MOST 1048576: true; the input reads as it did. -/
def fnFilesUptoRow : OpenClaim := { program := "ytohkcdkmpencnaa", sum := "c242c707f389e3c5ba10e9e95ea806db093e6b870d84abead7b474498e5f69ee", func := "loop.example/g00873/laws.FnFiles", spec := "fnFiles", inPlace := ["slices.overlaps[loop.example/g00873/impl.File]"], unfollowed := true, recurses := true, apart := false, narrowed := true }
def FnFilesUptoSaid : Prop := fnFilesUptoRow.holds Try.pinned (OpenSpec.upto fnFilesSpec)

/-- 'laws.FnExactDeleteFile', WHERE WHAT IT READS IS OF BULK AT MOST 1048576: true; the input reads as it did. -/
def fnExactDeleteFileUptoRow : OpenClaim := { program := "ytohkcdkmpencnaa", sum := "c242c707f389e3c5ba10e9e95ea806db093e6b870d84abead7b474498e5f69ee", func := "loop.example/g00873/laws.FnExactDeleteFile", spec := "fnExactDeleteFile", unfollowed := true, recurses := true, apart := false, narrowed := true }
def FnExactDeleteFileUptoSaid : Prop := fnExactDeleteFileUptoRow.holds Try.pinned (OpenSpec.upto fnExactDeleteFileSpec)

/-- 'laws.FnExactOpenFile', WHERE WHAT IT READS IS OF BULK AT MOST 1048576: true; the input reads as it did. -/
def fnExactOpenFileUptoRow : OpenClaim := { program := "ytohkcdkmpencnaa", sum := "c242c707f389e3c5ba10e9e95ea806db093e6b870d84abead7b474498e5f69ee", func := "loop.example/g00873/laws.FnExactOpenFile", spec := "fnExactOpenFile", inPlace := ["slices.overlaps[loop.example/g00873/impl.File]"], unfollowed := true, recurses := true, apart := false, narrowed := true }
def FnExactOpenFileUptoSaid : Prop := fnExactOpenFileUptoRow.holds Try.pinned (OpenSpec.upto fnExactOpenFileSpec)

end Rows
end Go.Proofs.Ytohkcdkmpencnaa
