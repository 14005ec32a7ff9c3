/-
  No cell of these rows narrows 'for every input' (looked for: loops, veiled, ifaces, maps, wideKeys, modest, calm, conditions, laid).
  DERIVED. THE GIVEN ROWS OF THIS SEAT. 10 by the template 'for every input the law returns true; each argument reads behind the call as it read before'; 0 by the template 'total and deterministic' (their statements: YtibhahlikgiegaaTotals.lean).
  GIVEN WITH THE SEED: the statements are not yours to turn. If you find one false, say at which input.
  Laid BY PROGRAM, IN A SANDBOX (cutbox-rows.mjs): the forced cells as the released guide's own fill.sh prints them over the translation 95c98cb05e8f098d… (all of the seat's roots in one cut). By AI agents, Wed Nov 11 2026. No macro, syntax, notation, axiom, sorry.
-/
import Derived.Test.YtibhahlikgiegaaChecked
import GoSem.Claim
import GoSem.ClaimJoined
import GoSem.ClaimMapViews
import Derived.JoinedTies
import Derived.KernelRfl
namespace Go.Proofs.Ytibhahlikgiegaa
/- THE CELL 'sum', in the pinned program and in every row, IS THE sha256 OF THE DUMP (.gsa) THAT YtibhahlikgiegaaProg.lean LOADS. Nothing in Lean hashes anything: it is a label: what it is worth is what the hold of that sum in a sandbox is worth. -/
noncomputable def Try.pinned : Pinned := { name := "ytibhahlikgiegaa", sum := "95c98cb05e8f098d3537db4e2d939fd5a3de1e0e317a983ae308329fcd46abb2", checked := Try.checked }
namespace Rows
def none {H : Type} : Left H := { results := [], args := [] }

/-- 'laws.FnConsole10': WHATEVER THE INPUT: true; the input reads as it did. -/
def fnConsole10Spec : ChangeSpec := { name := "fnConsole10", fn := fun _ => fun
  | [d] => { results := [.lit (.bool true)], args := [d] }
  | _ => none }
def fnConsole10Row : OpenClaim := { program := "ytibhahlikgiegaa", sum := "95c98cb05e8f098d3537db4e2d939fd5a3de1e0e317a983ae308329fcd46abb2", func := "loop.example/g00873/laws.FnConsole10", spec := "fnConsole10", unfollowed := true, recurses := true, apart := false }
def FnConsole10Said : Prop := fnConsole10Row.holds Try.pinned (OpenSpec.ofChange fnConsole10Spec)

/-- ITS FALSE NEIGHBOUR: 'it returns false'. Refute it at one input. -/
def fnConsole10Wrong : ChangeSpec := { name := "fnConsole10", fn := fun _ => fun
  | [d] => { results := [.lit (.bool false)], args := [d] }
  | _ => none }
def FnConsole10WrongFalsely : Prop := fnConsole10Row.holds Try.pinned (OpenSpec.ofChange fnConsole10Wrong)

/-- 'laws.FnExactReadLine': WHATEVER THE INPUT: true; the input reads as it did. -/
def fnExactReadLineSpec : ChangeSpec := { name := "fnExactReadLine", fn := fun _ => fun
  | [d] => { results := [.lit (.bool true)], args := [d] }
  | _ => none }
def fnExactReadLineRow : OpenClaim := { program := "ytibhahlikgiegaa", sum := "95c98cb05e8f098d3537db4e2d939fd5a3de1e0e317a983ae308329fcd46abb2", func := "loop.example/g00873/laws.FnExactReadLine", spec := "fnExactReadLine", unfollowed := true, recurses := true, apart := false }
def FnExactReadLineSaid : Prop := fnExactReadLineRow.holds Try.pinned (OpenSpec.ofChange fnExactReadLineSpec)

/-- ITS FALSE NEIGHBOUR: 'it returns false'. Refute it at one input. -/
def fnExactReadLineWrong : ChangeSpec := { name := "fnExactReadLine", fn := fun _ => fun
  | [d] => { results := [.lit (.bool false)], args := [d] }
  | _ => none }
def FnExactReadLineWrongFalsely : Prop := fnExactReadLineRow.holds Try.pinned (OpenSpec.ofChange fnExactReadLineWrong)

/-- 'laws.FnExactWriteLine': WHATEVER THE INPUT: true; the input reads as it did. -/
def fnExactWriteLineSpec : ChangeSpec := { name := "fnExactWriteLine", fn := fun _ => fun
  | [d1, d2] => { results := [.lit (.bool true)], args := [d1, d2] }
  | _ => none }
def fnExactWriteLineRow : OpenClaim := { program := "ytibhahlikgiegaa", sum := "95c98cb05e8f098d3537db4e2d939fd5a3de1e0e317a983ae308329fcd46abb2", func := "loop.example/g00873/laws.FnExactWriteLine", spec := "fnExactWriteLine", unfollowed := true, recurses := true, apart := false }
def FnExactWriteLineSaid : Prop := fnExactWriteLineRow.holds Try.pinned (OpenSpec.ofChange fnExactWriteLineSpec)

/-- ITS FALSE NEIGHBOUR: 'it returns false'. Refute it at one input. -/
def fnExactWriteLineWrong : ChangeSpec := { name := "fnExactWriteLine", fn := fun _ => fun
  | [d1, d2] => { results := [.lit (.bool false)], args := [d1, d2] }
  | _ => none }
def FnExactWriteLineWrongFalsely : Prop := fnExactWriteLineRow.holds Try.pinned (OpenSpec.ofChange fnExactWriteLineWrong)

/-- 'laws.FnExactRewindFile': WHATEVER THE INPUT: true; the input reads as it did. -/
def fnExactRewindFileSpec : ChangeSpec := { name := "fnExactRewindFile", fn := fun _ => fun
  | [d1, d2] => { results := [.lit (.bool true)], args := [d1, d2] }
  | _ => none }
def fnExactRewindFileRow : OpenClaim := { program := "ytibhahlikgiegaa", sum := "95c98cb05e8f098d3537db4e2d939fd5a3de1e0e317a983ae308329fcd46abb2", func := "loop.example/g00873/laws.FnExactRewindFile", spec := "fnExactRewindFile", unfollowed := true, recurses := true, apart := false }
def FnExactRewindFileSaid : Prop := fnExactRewindFileRow.holds Try.pinned (OpenSpec.ofChange fnExactRewindFileSpec)

/-- ITS FALSE NEIGHBOUR: 'it returns false'. Refute it at one input. -/
def fnExactRewindFileWrong : ChangeSpec := { name := "fnExactRewindFile", fn := fun _ => fun
  | [d1, d2] => { results := [.lit (.bool false)], args := [d1, d2] }
  | _ => none }
def FnExactRewindFileWrongFalsely : Prop := fnExactRewindFileRow.holds Try.pinned (OpenSpec.ofChange fnExactRewindFileWrong)

/-- 'laws.FnExactCloseFile': WHATEVER THE INPUT: true; the input reads as it did. -/
def fnExactCloseFileSpec : ChangeSpec := { name := "fnExactCloseFile", fn := fun _ => fun
  | [d1, d2] => { results := [.lit (.bool true)], args := [d1, d2] }
  | _ => none }
def fnExactCloseFileRow : OpenClaim := { program := "ytibhahlikgiegaa", sum := "95c98cb05e8f098d3537db4e2d939fd5a3de1e0e317a983ae308329fcd46abb2", func := "loop.example/g00873/laws.FnExactCloseFile", spec := "fnExactCloseFile", unfollowed := true, recurses := true, apart := false }
def FnExactCloseFileSaid : Prop := fnExactCloseFileRow.holds Try.pinned (OpenSpec.ofChange fnExactCloseFileSpec)

/-- ITS FALSE NEIGHBOUR: 'it returns false'. Refute it at one input. -/
def fnExactCloseFileWrong : ChangeSpec := { name := "fnExactCloseFile", fn := fun _ => fun
  | [d1, d2] => { results := [.lit (.bool false)], args := [d1, d2] }
  | _ => none }
def FnExactCloseFileWrongFalsely : Prop := fnExactCloseFileRow.holds Try.pinned (OpenSpec.ofChange fnExactCloseFileWrong)

/-- 'laws.FnExactReadFile': WHATEVER THE INPUT: true; the input reads as it did. -/
def fnExactReadFileSpec : ChangeSpec := { name := "fnExactReadFile", fn := fun _ => fun
  | [d1, d2] => { results := [.lit (.bool true)], args := [d1, d2] }
  | _ => none }
def fnExactReadFileRow : OpenClaim := { program := "ytibhahlikgiegaa", sum := "95c98cb05e8f098d3537db4e2d939fd5a3de1e0e317a983ae308329fcd46abb2", func := "loop.example/g00873/laws.FnExactReadFile", spec := "fnExactReadFile", unfollowed := true, recurses := true, apart := false }
def FnExactReadFileSaid : Prop := fnExactReadFileRow.holds Try.pinned (OpenSpec.ofChange fnExactReadFileSpec)

/-- ITS FALSE NEIGHBOUR: 'it returns false'. Refute it at one input. -/
def fnExactReadFileWrong : ChangeSpec := { name := "fnExactReadFile", fn := fun _ => fun
  | [d1, d2] => { results := [.lit (.bool false)], args := [d1, d2] }
  | _ => none }
def FnExactReadFileWrongFalsely : Prop := fnExactReadFileRow.holds Try.pinned (OpenSpec.ofChange fnExactReadFileWrong)

/-- 'laws.FnExactWriteFile': WHATEVER THE INPUT: true; the input reads as it did. -/
def fnExactWriteFileSpec : ChangeSpec := { name := "fnExactWriteFile", fn := fun _ => fun
  | [d1, d2, d3] => { results := [.lit (.bool true)], args := [d1, d2, d3] }
  | _ => none }
def fnExactWriteFileRow : OpenClaim := { program := "ytibhahlikgiegaa", sum := "95c98cb05e8f098d3537db4e2d939fd5a3de1e0e317a983ae308329fcd46abb2", func := "loop.example/g00873/laws.FnExactWriteFile", spec := "fnExactWriteFile", unfollowed := true, recurses := true, apart := false }
def FnExactWriteFileSaid : Prop := fnExactWriteFileRow.holds Try.pinned (OpenSpec.ofChange fnExactWriteFileSpec)

/-- ITS FALSE NEIGHBOUR: 'it returns false'. Refute it at one input. -/
def fnExactWriteFileWrong : ChangeSpec := { name := "fnExactWriteFile", fn := fun _ => fun
  | [d1, d2, d3] => { results := [.lit (.bool false)], args := [d1, d2, d3] }
  | _ => none }
def FnExactWriteFileWrongFalsely : Prop := fnExactWriteFileRow.holds Try.pinned (OpenSpec.ofChange fnExactWriteFileWrong)

/-- 'laws.FnExactDeleteFile': WHATEVER THE INPUT: true; the input reads as it did. -/
def fnExactDeleteFileSpec : ChangeSpec := { name := "fnExactDeleteFile", fn := fun _ => fun
  | [d1, d2] => { results := [.lit (.bool true)], args := [d1, d2] }
  | _ => none }
def fnExactDeleteFileRow : OpenClaim := { program := "ytibhahlikgiegaa", sum := "95c98cb05e8f098d3537db4e2d939fd5a3de1e0e317a983ae308329fcd46abb2", func := "loop.example/g00873/laws.FnExactDeleteFile", spec := "fnExactDeleteFile", unfollowed := true, recurses := true, apart := false }
def FnExactDeleteFileSaid : Prop := fnExactDeleteFileRow.holds Try.pinned (OpenSpec.ofChange fnExactDeleteFileSpec)

/-- ITS FALSE NEIGHBOUR: 'it returns false'. Refute it at one input. -/
def fnExactDeleteFileWrong : ChangeSpec := { name := "fnExactDeleteFile", fn := fun _ => fun
  | [d1, d2] => { results := [.lit (.bool false)], args := [d1, d2] }
  | _ => none }
def FnExactDeleteFileWrongFalsely : Prop := fnExactDeleteFileRow.holds Try.pinned (OpenSpec.ofChange fnExactDeleteFileWrong)

/-- 'laws.FnFiles': WHATEVER THE INPUT: true; the input reads as it did. -/
def fnFilesSpec : ChangeSpec := { name := "fnFiles", fn := fun _ => fun
  | [d1, d2] => { results := [.lit (.bool true)], args := [d1, d2] }
  | _ => none }
def fnFilesRow : OpenClaim := { program := "ytibhahlikgiegaa", sum := "95c98cb05e8f098d3537db4e2d939fd5a3de1e0e317a983ae308329fcd46abb2", func := "loop.example/g00873/laws.FnFiles", spec := "fnFiles", inPlace := ["slices.overlaps[loop.example/g00873/impl.File]"], unfollowed := true, recurses := true, apart := false }
def FnFilesSaid : Prop := fnFilesRow.holds Try.pinned (OpenSpec.ofChange fnFilesSpec)

/-- ITS FALSE NEIGHBOUR: 'it returns false'. Refute it at one input. -/
def fnFilesWrong : ChangeSpec := { name := "fnFiles", fn := fun _ => fun
  | [d1, d2] => { results := [.lit (.bool false)], args := [d1, d2] }
  | _ => none }
def FnFilesWrongFalsely : Prop := fnFilesRow.holds Try.pinned (OpenSpec.ofChange fnFilesWrong)

/-- 'laws.FnExactOpenFile': WHATEVER THE INPUT: true; the input reads as it did. -/
def fnExactOpenFileSpec : ChangeSpec := { name := "fnExactOpenFile", fn := fun _ => fun
  | [d1, d2, d3] => { results := [.lit (.bool true)], args := [d1, d2, d3] }
  | _ => none }
def fnExactOpenFileRow : OpenClaim := { program := "ytibhahlikgiegaa", sum := "95c98cb05e8f098d3537db4e2d939fd5a3de1e0e317a983ae308329fcd46abb2", func := "loop.example/g00873/laws.FnExactOpenFile", spec := "fnExactOpenFile", inPlace := ["slices.overlaps[loop.example/g00873/impl.File]"], unfollowed := true, recurses := true, apart := false }
def FnExactOpenFileSaid : Prop := fnExactOpenFileRow.holds Try.pinned (OpenSpec.ofChange fnExactOpenFileSpec)

/-- ITS FALSE NEIGHBOUR: 'it returns false'. Refute it at one input. -/
def fnExactOpenFileWrong : ChangeSpec := { name := "fnExactOpenFile", fn := fun _ => fun
  | [d1, d2, d3] => { results := [.lit (.bool false)], args := [d1, d2, d3] }
  | _ => none }
def FnExactOpenFileWrongFalsely : Prop := fnExactOpenFileRow.holds Try.pinned (OpenSpec.ofChange fnExactOpenFileWrong)

/- THE SECOND FORM. 'bulk': how many values and letters a reading holds, each counted each time it is reached (what is shared counts as often as it is met; a slice's spare places count too). A statement '..UptoSaid' is the law's where the arguments, and the package variables that the reading takes, are together of bulk at most 1048576: NARROWER than '..Said'. Prove '..Said' where nothing that the law and all that it calls make is longer than what came in: it says more and counts as full. Else prove '..UptoSaid'. A law counts once. -/
mutual
def uptoBulk {H : Type} : DataW H → Nat
  | .lit (.string bytes) => bytes.length + 1
  | .lit _ => 1
  | .nil => 1
  | .ptr d => uptoBulk d + 1
  | .slice elems spare => uptoBulkAll elems + uptoBulkAll spare + 1
  | .agg parts => uptoBulkAll parts + 1
  | .iface _ d => uptoBulk d + 1
  | .map entries => uptoBulkEntries entries + 1
  | .held _ => 1
def uptoBulkAll {H : Type} : List (DataW H) → Nat
  | [] => 0
  | d :: r => uptoBulk d + uptoBulkAll r
def uptoBulkEntries {H : Type} : List (Lit × DataW H) → Nat
  | [] => 0
  | x :: r => uptoBulkEntry x + uptoBulkEntries r
def uptoBulkEntry {H : Type} : Lit × DataW H → Nat
  | (.string bytes, d) => bytes.length + uptoBulk d + 1
  | (_, d) => uptoBulk d + 1
 end
def uptoSmall : (H : Type) → List (DataW H) → Bool := fun _ ds => decide (uptoBulkAll ds ≤ 1048576)
def OpenSpec.upto (s : _root_.Go.ChangeSpec) : _root_.Go.OpenSpec := { _root_.Go.OpenSpec.ofChange s with cond := some uptoSmall }

/-- 'laws.FnConsole10', WHERE WHAT IT READS IS OF BULK AT MOST 1048576: true; the input reads as it did. -/
def fnConsole10UptoRow : OpenClaim := { program := "ytibhahlikgiegaa", sum := "95c98cb05e8f098d3537db4e2d939fd5a3de1e0e317a983ae308329fcd46abb2", func := "loop.example/g00873/laws.FnConsole10", spec := "fnConsole10", unfollowed := true, recurses := true, apart := false, narrowed := true }
def FnConsole10UptoSaid : Prop := fnConsole10UptoRow.holds Try.pinned (OpenSpec.upto fnConsole10Spec)

/-- 'laws.FnExactReadLine', WHERE WHAT IT READS IS OF BULK AT MOST 1048576: true; the input reads as it did. -/
def fnExactReadLineUptoRow : OpenClaim := { program := "ytibhahlikgiegaa", sum := "95c98cb05e8f098d3537db4e2d939fd5a3de1e0e317a983ae308329fcd46abb2", func := "loop.example/g00873/laws.FnExactReadLine", spec := "fnExactReadLine", unfollowed := true, recurses := true, apart := false, narrowed := true }
def FnExactReadLineUptoSaid : Prop := fnExactReadLineUptoRow.holds Try.pinned (OpenSpec.upto fnExactReadLineSpec)

/-- 'laws.FnExactWriteLine', WHERE WHAT IT READS IS OF BULK AT MOST 1048576: true; the input reads as it did. -/
def fnExactWriteLineUptoRow : OpenClaim := { program := "ytibhahlikgiegaa", sum := "95c98cb05e8f098d3537db4e2d939fd5a3de1e0e317a983ae308329fcd46abb2", func := "loop.example/g00873/laws.FnExactWriteLine", spec := "fnExactWriteLine", unfollowed := true, recurses := true, apart := false, narrowed := true }
def FnExactWriteLineUptoSaid : Prop := fnExactWriteLineUptoRow.holds Try.pinned (OpenSpec.upto fnExactWriteLineSpec)

/-- 'laws.FnExactRewindFile', WHERE WHAT IT READS IS OF BULK AT MOST 1048576: true; the input reads as it did. -/
def fnExactRewindFileUptoRow : OpenClaim := { program := "ytibhahlikgiegaa", sum := "95c98cb05e8f098d3537db4e2d939fd5a3de1e0e317a983ae308329fcd46abb2", func := "loop.example/g00873/laws.FnExactRewindFile", spec := "fnExactRewindFile", unfollowed := true, recurses := true, apart := false, narrowed := true }
def FnExactRewindFileUptoSaid : Prop := fnExactRewindFileUptoRow.holds Try.pinned (OpenSpec.upto fnExactRewindFileSpec)

/-- 'laws.FnExactCloseFile', WHERE WHAT IT READS IS OF BULK AT MOST 1048576: true; the input reads as it did. -/
def fnExactCloseFileUptoRow : OpenClaim := { program := "ytibhahlikgiegaa", sum := "95c98cb05e8f098d3537db4e2d939fd5a3de1e0e317a983ae308329fcd46abb2", func := "loop.example/g00873/laws.FnExactCloseFile", spec := "fnExactCloseFile", unfollowed := true, recurses := true, apart := false, narrowed := true }
def FnExactCloseFileUptoSaid : Prop := fnExactCloseFileUptoRow.holds Try.pinned (OpenSpec.upto fnExactCloseFileSpec)

/-- 'laws.FnExactReadFile', WHERE WHAT IT READS IS OF BULK AT MOST 1048576: true; the input reads as it did. -/
def fnExactReadFileUptoRow : OpenClaim := { program := "ytibhahlikgiegaa", sum := "95c98cb05e8f098d3537db4e2d939fd5a3de1e0e317a983ae308329fcd46abb2", func := "loop.example/g00873/laws.FnExactReadFile", spec := "fnExactReadFile", unfollowed := true, recurses := true, apart := false, narrowed := true }
def FnExactReadFileUptoSaid : Prop := fnExactReadFileUptoRow.holds Try.pinned (OpenSpec.upto fnExactReadFileSpec)

/-- 'laws.FnExactWriteFile', WHERE WHAT IT READS IS OF BULK AT MOST 1048576: true; the input reads as it did. -/
def fnExactWriteFileUptoRow : OpenClaim := { program := "ytibhahlikgiegaa", sum := "95c98cb05e8f098d3537db4e2d939fd5a3de1e0e317a983ae308329fcd46abb2", func := "loop.example/g00873/laws.FnExactWriteFile", spec := "fnExactWriteFile", unfollowed := true, recurses := true, apart := false, narrowed := true }
def FnExactWriteFileUptoSaid : Prop := fnExactWriteFileUptoRow.holds Try.pinned (OpenSpec.upto fnExactWriteFileSpec)

/-- 'laws.FnExactDeleteFile', WHERE WHAT IT READS IS OF BULK AT MOST 1048576: true; the input reads as it did. -/
def fnExactDeleteFileUptoRow : OpenClaim := { program := "ytibhahlikgiegaa", sum := "95c98cb05e8f098d3537db4e2d939fd5a3de1e0e317a983ae308329fcd46abb2", func := "loop.example/g00873/laws.FnExactDeleteFile", spec := "fnExactDeleteFile", unfollowed := true, recurses := true, apart := false, narrowed := true }
def FnExactDeleteFileUptoSaid : Prop := fnExactDeleteFileUptoRow.holds Try.pinned (OpenSpec.upto fnExactDeleteFileSpec)

/-- 'laws.FnFiles', WHERE WHAT IT READS IS OF BULK AT MOST 1048576: true; the input reads as it did. -/
def fnFilesUptoRow : OpenClaim := { program := "ytibhahlikgiegaa", sum := "95c98cb05e8f098d3537db4e2d939fd5a3de1e0e317a983ae308329fcd46abb2", func := "loop.example/g00873/laws.FnFiles", spec := "fnFiles", inPlace := ["slices.overlaps[loop.example/g00873/impl.File]"], unfollowed := true, recurses := true, apart := false, narrowed := true }
def FnFilesUptoSaid : Prop := fnFilesUptoRow.holds Try.pinned (OpenSpec.upto fnFilesSpec)

/-- 'laws.FnExactOpenFile', WHERE WHAT IT READS IS OF BULK AT MOST 1048576: true; the input reads as it did. -/
def fnExactOpenFileUptoRow : OpenClaim := { program := "ytibhahlikgiegaa", sum := "95c98cb05e8f098d3537db4e2d939fd5a3de1e0e317a983ae308329fcd46abb2", func := "loop.example/g00873/laws.FnExactOpenFile", spec := "fnExactOpenFile", inPlace := ["slices.overlaps[loop.example/g00873/impl.File]"], unfollowed := true, recurses := true, apart := false, narrowed := true }
def FnExactOpenFileUptoSaid : Prop := fnExactOpenFileUptoRow.holds Try.pinned (OpenSpec.upto fnExactOpenFileSpec)

end Rows
end Go.Proofs.Ytibhahlikgiegaa
