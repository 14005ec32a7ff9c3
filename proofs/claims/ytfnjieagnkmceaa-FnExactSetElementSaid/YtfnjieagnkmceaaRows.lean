/-
  No cell of these rows narrows 'for every input' (looked for: loops, veiled, ifaces, maps, wideKeys, modest, calm, conditions, laid).
  DERIVED. THE GIVEN ROWS OF THIS SEAT. 11 by the template 'for every input the law returns true; each argument reads behind the call as it read before'; 0 by the template 'total and deterministic' (their statements: YtfnjieagnkmceaaTotals.lean).
  GIVEN WITH THE SEED: the statements are not yours to turn. If you find one false, say at which input.
  Laid BY PROGRAM, IN A SANDBOX (cutbox-rows.mjs): the forced cells as the released guide's own fill.sh prints them over the translation 6a5bb288f58bb5ea… (all of the seat's roots in one cut). By AI agents, Wed Nov 11 2026. No macro, syntax, notation, axiom, sorry.
-/
import Derived.Test.YtfnjieagnkmceaaChecked
import GoSem.Claim
import GoSem.ClaimJoined
import GoSem.ClaimMapViews
import Derived.JoinedTies
import Derived.KernelRfl
namespace Go.Proofs.Ytfnjieagnkmceaa
/- THE CELL 'sum', in the pinned program and in every row, IS THE sha256 OF THE DUMP (.gsa) THAT YtfnjieagnkmceaaProg.lean LOADS. Nothing in Lean hashes anything: it is a label: what it is worth is what the hold of that sum in a sandbox is worth. -/
noncomputable def Try.pinned : Pinned := { name := "ytfnjieagnkmceaa", sum := "6a5bb288f58bb5eab6172f03edf92ea1375aa3225515de4ea6e9602622120431", checked := Try.checked }
namespace Rows
def none {H : Type} : Left H := { results := [], args := [] }

/-- 'laws.FnExactObjectAt': WHATEVER THE INPUT: true; the input reads as it did. -/
def fnExactObjectAtSpec : ChangeSpec := { name := "fnExactObjectAt", fn := fun _ => fun
  | [d1, d2] => { results := [.lit (.bool true)], args := [d1, d2] }
  | _ => none }
def fnExactObjectAtRow : OpenClaim := { program := "ytfnjieagnkmceaa", sum := "6a5bb288f58bb5eab6172f03edf92ea1375aa3225515de4ea6e9602622120431", func := "loop.example/g00873/laws.FnExactObjectAt", spec := "fnExactObjectAt", unfollowed := true, recurses := true, apart := false }
def FnExactObjectAtSaid : Prop := fnExactObjectAtRow.holds Try.pinned (OpenSpec.ofChange fnExactObjectAtSpec)

/-- ITS FALSE NEIGHBOUR: 'it returns false'. Refute it at one input. -/
def fnExactObjectAtWrong : ChangeSpec := { name := "fnExactObjectAt", fn := fun _ => fun
  | [d1, d2] => { results := [.lit (.bool false)], args := [d1, d2] }
  | _ => none }
def FnExactObjectAtWrongFalsely : Prop := fnExactObjectAtRow.holds Try.pinned (OpenSpec.ofChange fnExactObjectAtWrong)

/-- 'laws.FnExactSetObject': WHATEVER THE INPUT: true; the input reads as it did. -/
def fnExactSetObjectSpec : ChangeSpec := { name := "fnExactSetObject", fn := fun _ => fun
  | [d1, d2] => { results := [.lit (.bool true)], args := [d1, d2] }
  | _ => none }
def fnExactSetObjectRow : OpenClaim := { program := "ytfnjieagnkmceaa", sum := "6a5bb288f58bb5eab6172f03edf92ea1375aa3225515de4ea6e9602622120431", func := "loop.example/g00873/laws.FnExactSetObject", spec := "fnExactSetObject", unfollowed := true, recurses := true, apart := false }
def FnExactSetObjectSaid : Prop := fnExactSetObjectRow.holds Try.pinned (OpenSpec.ofChange fnExactSetObjectSpec)

/-- ITS FALSE NEIGHBOUR: 'it returns false'. Refute it at one input. -/
def fnExactSetObjectWrong : ChangeSpec := { name := "fnExactSetObject", fn := fun _ => fun
  | [d1, d2] => { results := [.lit (.bool false)], args := [d1, d2] }
  | _ => none }
def FnExactSetObjectWrongFalsely : Prop := fnExactSetObjectRow.holds Try.pinned (OpenSpec.ofChange fnExactSetObjectWrong)

/-- 'laws.FnExactNewObject': WHATEVER THE INPUT: true; the input reads as it did. -/
def fnExactNewObjectSpec : ChangeSpec := { name := "fnExactNewObject", fn := fun _ => fun
  | [d1, d2] => { results := [.lit (.bool true)], args := [d1, d2] }
  | _ => none }
def fnExactNewObjectRow : OpenClaim := { program := "ytfnjieagnkmceaa", sum := "6a5bb288f58bb5eab6172f03edf92ea1375aa3225515de4ea6e9602622120431", func := "loop.example/g00873/laws.FnExactNewObject", spec := "fnExactNewObject", unfollowed := true, recurses := true, apart := false }
def FnExactNewObjectSaid : Prop := fnExactNewObjectRow.holds Try.pinned (OpenSpec.ofChange fnExactNewObjectSpec)

/-- ITS FALSE NEIGHBOUR: 'it returns false'. Refute it at one input. -/
def fnExactNewObjectWrong : ChangeSpec := { name := "fnExactNewObject", fn := fun _ => fun
  | [d1, d2] => { results := [.lit (.bool false)], args := [d1, d2] }
  | _ => none }
def FnExactNewObjectWrongFalsely : Prop := fnExactNewObjectRow.holds Try.pinned (OpenSpec.ofChange fnExactNewObjectWrong)

/-- 'laws.FnExactNewTable': WHATEVER THE INPUT: true; the input reads as it did. -/
def fnExactNewTableSpec : ChangeSpec := { name := "fnExactNewTable", fn := fun _ => fun
  | [d1, d2] => { results := [.lit (.bool true)], args := [d1, d2] }
  | _ => none }
def fnExactNewTableRow : OpenClaim := { program := "ytfnjieagnkmceaa", sum := "6a5bb288f58bb5eab6172f03edf92ea1375aa3225515de4ea6e9602622120431", func := "loop.example/g00873/laws.FnExactNewTable", spec := "fnExactNewTable", unfollowed := true, recurses := true, apart := false }
def FnExactNewTableSaid : Prop := fnExactNewTableRow.holds Try.pinned (OpenSpec.ofChange fnExactNewTableSpec)

/-- ITS FALSE NEIGHBOUR: 'it returns false'. Refute it at one input. -/
def fnExactNewTableWrong : ChangeSpec := { name := "fnExactNewTable", fn := fun _ => fun
  | [d1, d2] => { results := [.lit (.bool false)], args := [d1, d2] }
  | _ => none }
def FnExactNewTableWrongFalsely : Prop := fnExactNewTableRow.holds Try.pinned (OpenSpec.ofChange fnExactNewTableWrong)

/-- 'laws.FnExactSetField': WHATEVER THE INPUT: true; the input reads as it did. -/
def fnExactSetFieldSpec : ChangeSpec := { name := "fnExactSetField", fn := fun _ => fun
  | [d1, d2, d3, d4] => { results := [.lit (.bool true)], args := [d1, d2, d3, d4] }
  | _ => none }
def fnExactSetFieldRow : OpenClaim := { program := "ytfnjieagnkmceaa", sum := "6a5bb288f58bb5eab6172f03edf92ea1375aa3225515de4ea6e9602622120431", func := "loop.example/g00873/laws.FnExactSetField", spec := "fnExactSetField", unfollowed := true, recurses := true, apart := false }
def FnExactSetFieldSaid : Prop := fnExactSetFieldRow.holds Try.pinned (OpenSpec.ofChange fnExactSetFieldSpec)

/-- ITS FALSE NEIGHBOUR: 'it returns false'. Refute it at one input. -/
def fnExactSetFieldWrong : ChangeSpec := { name := "fnExactSetField", fn := fun _ => fun
  | [d1, d2, d3, d4] => { results := [.lit (.bool false)], args := [d1, d2, d3, d4] }
  | _ => none }
def FnExactSetFieldWrongFalsely : Prop := fnExactSetFieldRow.holds Try.pinned (OpenSpec.ofChange fnExactSetFieldWrong)

/-- 'laws.FnExactCopyObject': WHATEVER THE INPUT: true; the input reads as it did. -/
def fnExactCopyObjectSpec : ChangeSpec := { name := "fnExactCopyObject", fn := fun _ => fun
  | [d1, d2] => { results := [.lit (.bool true)], args := [d1, d2] }
  | _ => none }
def fnExactCopyObjectRow : OpenClaim := { program := "ytfnjieagnkmceaa", sum := "6a5bb288f58bb5eab6172f03edf92ea1375aa3225515de4ea6e9602622120431", func := "loop.example/g00873/laws.FnExactCopyObject", spec := "fnExactCopyObject", unfollowed := true, recurses := true, apart := false }
def FnExactCopyObjectSaid : Prop := fnExactCopyObjectRow.holds Try.pinned (OpenSpec.ofChange fnExactCopyObjectSpec)

/-- ITS FALSE NEIGHBOUR: 'it returns false'. Refute it at one input. -/
def fnExactCopyObjectWrong : ChangeSpec := { name := "fnExactCopyObject", fn := fun _ => fun
  | [d1, d2] => { results := [.lit (.bool false)], args := [d1, d2] }
  | _ => none }
def FnExactCopyObjectWrongFalsely : Prop := fnExactCopyObjectRow.holds Try.pinned (OpenSpec.ofChange fnExactCopyObjectWrong)

/-- 'laws.FnExactSetElement': WHATEVER THE INPUT: true; the input reads as it did. -/
def fnExactSetElementSpec : ChangeSpec := { name := "fnExactSetElement", fn := fun _ => fun
  | [d1, d2, d3, d4] => { results := [.lit (.bool true)], args := [d1, d2, d3, d4] }
  | _ => none }
def fnExactSetElementRow : OpenClaim := { program := "ytfnjieagnkmceaa", sum := "6a5bb288f58bb5eab6172f03edf92ea1375aa3225515de4ea6e9602622120431", func := "loop.example/g00873/laws.FnExactSetElement", spec := "fnExactSetElement", unfollowed := true, recurses := true, apart := false }
def FnExactSetElementSaid : Prop := fnExactSetElementRow.holds Try.pinned (OpenSpec.ofChange fnExactSetElementSpec)

/-- ITS FALSE NEIGHBOUR: 'it returns false'. Refute it at one input. -/
def fnExactSetElementWrong : ChangeSpec := { name := "fnExactSetElement", fn := fun _ => fun
  | [d1, d2, d3, d4] => { results := [.lit (.bool false)], args := [d1, d2, d3, d4] }
  | _ => none }
def FnExactSetElementWrongFalsely : Prop := fnExactSetElementRow.holds Try.pinned (OpenSpec.ofChange fnExactSetElementWrong)

/-- 'laws.FnExactNewArray': WHATEVER THE INPUT: true; the input reads as it did. -/
def fnExactNewArraySpec : ChangeSpec := { name := "fnExactNewArray", fn := fun _ => fun
  | [d1, d2, d3, d4] => { results := [.lit (.bool true)], args := [d1, d2, d3, d4] }
  | _ => none }
def fnExactNewArrayRow : OpenClaim := { program := "ytfnjieagnkmceaa", sum := "6a5bb288f58bb5eab6172f03edf92ea1375aa3225515de4ea6e9602622120431", func := "loop.example/g00873/laws.FnExactNewArray", spec := "fnExactNewArray", unfollowed := true, recurses := true, apart := false }
def FnExactNewArraySaid : Prop := fnExactNewArrayRow.holds Try.pinned (OpenSpec.ofChange fnExactNewArraySpec)

/-- ITS FALSE NEIGHBOUR: 'it returns false'. Refute it at one input. -/
def fnExactNewArrayWrong : ChangeSpec := { name := "fnExactNewArray", fn := fun _ => fun
  | [d1, d2, d3, d4] => { results := [.lit (.bool false)], args := [d1, d2, d3, d4] }
  | _ => none }
def FnExactNewArrayWrongFalsely : Prop := fnExactNewArrayRow.holds Try.pinned (OpenSpec.ofChange fnExactNewArrayWrong)

/-- 'laws.FnExactCollectIfNeeded': WHATEVER THE INPUT: true; the input reads as it did. -/
def fnExactCollectIfNeededSpec : ChangeSpec := { name := "fnExactCollectIfNeeded", fn := fun _ => fun
  | [d1, d2, d3] => { results := [.lit (.bool true)], args := [d1, d2, d3] }
  | _ => none }
def fnExactCollectIfNeededRow : OpenClaim := { program := "ytfnjieagnkmceaa", sum := "6a5bb288f58bb5eab6172f03edf92ea1375aa3225515de4ea6e9602622120431", func := "loop.example/g00873/laws.FnExactCollectIfNeeded", spec := "fnExactCollectIfNeeded", unfollowed := true, recurses := true, apart := false }
def FnExactCollectIfNeededSaid : Prop := fnExactCollectIfNeededRow.holds Try.pinned (OpenSpec.ofChange fnExactCollectIfNeededSpec)

/-- ITS FALSE NEIGHBOUR: 'it returns false'. Refute it at one input. -/
def fnExactCollectIfNeededWrong : ChangeSpec := { name := "fnExactCollectIfNeeded", fn := fun _ => fun
  | [d1, d2, d3] => { results := [.lit (.bool false)], args := [d1, d2, d3] }
  | _ => none }
def FnExactCollectIfNeededWrongFalsely : Prop := fnExactCollectIfNeededRow.holds Try.pinned (OpenSpec.ofChange fnExactCollectIfNeededWrong)

/-- 'laws.FnHeap': WHATEVER THE INPUT: true; the input reads as it did. -/
def fnHeapSpec : ChangeSpec := { name := "fnHeap", fn := fun _ => fun
  | [d] => { results := [.lit (.bool true)], args := [d] }
  | _ => none }
def fnHeapRow : OpenClaim := { program := "ytfnjieagnkmceaa", sum := "6a5bb288f58bb5eab6172f03edf92ea1375aa3225515de4ea6e9602622120431", func := "loop.example/g00873/laws.FnHeap", spec := "fnHeap", unfollowed := true, recurses := true, apart := false }
def FnHeapSaid : Prop := fnHeapRow.holds Try.pinned (OpenSpec.ofChange fnHeapSpec)

/-- ITS FALSE NEIGHBOUR: 'it returns false'. Refute it at one input. -/
def fnHeapWrong : ChangeSpec := { name := "fnHeap", fn := fun _ => fun
  | [d] => { results := [.lit (.bool false)], args := [d] }
  | _ => none }
def FnHeapWrongFalsely : Prop := fnHeapRow.holds Try.pinned (OpenSpec.ofChange fnHeapWrong)

/-- 'laws.FnCopies': WHATEVER THE INPUT: true; the input reads as it did. -/
def fnCopiesSpec : ChangeSpec := { name := "fnCopies", fn := fun _ => fun
  | [d] => { results := [.lit (.bool true)], args := [d] }
  | _ => none }
def fnCopiesRow : OpenClaim := { program := "ytfnjieagnkmceaa", sum := "6a5bb288f58bb5eab6172f03edf92ea1375aa3225515de4ea6e9602622120431", func := "loop.example/g00873/laws.FnCopies", spec := "fnCopies", unfollowed := true, recurses := true, apart := false }
def FnCopiesSaid : Prop := fnCopiesRow.holds Try.pinned (OpenSpec.ofChange fnCopiesSpec)

/-- ITS FALSE NEIGHBOUR: 'it returns false'. Refute it at one input. -/
def fnCopiesWrong : ChangeSpec := { name := "fnCopies", fn := fun _ => fun
  | [d] => { results := [.lit (.bool false)], args := [d] }
  | _ => none }
def FnCopiesWrongFalsely : Prop := fnCopiesRow.holds Try.pinned (OpenSpec.ofChange fnCopiesWrong)

/- THE SECOND FORM. 'bulk': how many values and letters a reading holds, each counted each time it is reached (what is shared counts as often as it is met; a slice's spare places count too). A statement '..UptoSaid' is the law's where the arguments, and the package variables that the reading takes, are together of bulk at most 1048576: NARROWER than '..Said'. Prove '..Said' where nothing that the law and all that it calls make is longer than what came in: it says more and counts as full. Else prove '..UptoSaid'. A law counts once. -/
mutual
def uptoBulk {H : Type} : DataW H → Nat
  | .lit (.string bytes) => bytes.length + 1
  | .lit _ => 1
  | .nil => 1
  | .ptr d => uptoBulk d + 1
  | .slice elems spare => uptoBulkAll elems + uptoBulkAll spare + 1
  | .agg parts => uptoBulkAll parts + 1
  | .iface _ d => uptoBulk d + 1
  | .map entries => uptoBulkEntries entries + 1
  | .held _ => 1
def uptoBulkAll {H : Type} : List (DataW H) → Nat
  | [] => 0
  | d :: r => uptoBulk d + uptoBulkAll r
def uptoBulkEntries {H : Type} : List (Lit × DataW H) → Nat
  | [] => 0
  | x :: r => uptoBulkEntry x + uptoBulkEntries r
def uptoBulkEntry {H : Type} : Lit × DataW H → Nat
  | (.string bytes, d) => bytes.length + uptoBulk d + 1
  | (_, d) => uptoBulk d + 1
 end
def uptoSmall : (H : Type) → List (DataW H) → Bool := fun _ ds => decide (uptoBulkAll ds ≤ 1048576)
def OpenSpec.upto (s : _root_.Go.ChangeSpec) : _root_.Go.OpenSpec := { _root_.Go.OpenSpec.ofChange s with cond := some uptoSmall }

/-- 'laws.FnExactObjectAt', WHERE WHAT IT READS IS OF BULK AT MOST 1048576: true; the input reads as it did. -/
def fnExactObjectAtUptoRow : OpenClaim := { program := "ytfnjieagnkmceaa", sum := "6a5bb288f58bb5eab6172f03edf92ea1375aa3225515de4ea6e9602622120431", func := "loop.example/g00873/laws.FnExactObjectAt", spec := "fnExactObjectAt", unfollowed := true, recurses := true, apart := false, narrowed := true }
def FnExactObjectAtUptoSaid : Prop := fnExactObjectAtUptoRow.holds Try.pinned (OpenSpec.upto fnExactObjectAtSpec)

/-- 'laws.FnExactSetObject', WHERE WHAT IT READS IS OF BULK AT MOST 1048576: true; the input reads as it did. -/
def fnExactSetObjectUptoRow : OpenClaim := { program := "ytfnjieagnkmceaa", sum := "6a5bb288f58bb5eab6172f03edf92ea1375aa3225515de4ea6e9602622120431", func := "loop.example/g00873/laws.FnExactSetObject", spec := "fnExactSetObject", unfollowed := true, recurses := true, apart := false, narrowed := true }
def FnExactSetObjectUptoSaid : Prop := fnExactSetObjectUptoRow.holds Try.pinned (OpenSpec.upto fnExactSetObjectSpec)

/-- 'laws.FnExactNewObject', WHERE WHAT IT READS IS OF BULK AT MOST 1048576: true; the input reads as it did. -/
def fnExactNewObjectUptoRow : OpenClaim := { program := "ytfnjieagnkmceaa", sum := "6a5bb288f58bb5eab6172f03edf92ea1375aa3225515de4ea6e9602622120431", func := "loop.example/g00873/laws.FnExactNewObject", spec := "fnExactNewObject", unfollowed := true, recurses := true, apart := false, narrowed := true }
def FnExactNewObjectUptoSaid : Prop := fnExactNewObjectUptoRow.holds Try.pinned (OpenSpec.upto fnExactNewObjectSpec)

/-- 'laws.FnExactNewTable', WHERE WHAT IT READS IS OF BULK AT MOST 1048576: true; the input reads as it did. -/
def fnExactNewTableUptoRow : OpenClaim := { program := "ytfnjieagnkmceaa", sum := "6a5bb288f58bb5eab6172f03edf92ea1375aa3225515de4ea6e9602622120431", func := "loop.example/g00873/laws.FnExactNewTable", spec := "fnExactNewTable", unfollowed := true, recurses := true, apart := false, narrowed := true }
def FnExactNewTableUptoSaid : Prop := fnExactNewTableUptoRow.holds Try.pinned (OpenSpec.upto fnExactNewTableSpec)

/-- 'laws.FnExactSetField', WHERE WHAT IT READS IS OF BULK AT MOST 1048576: true; the input reads as it did. -/
def fnExactSetFieldUptoRow : OpenClaim := { program := "ytfnjieagnkmceaa", sum := "6a5bb288f58bb5eab6172f03edf92ea1375aa3225515de4ea6e9602622120431", func := "loop.example/g00873/laws.FnExactSetField", spec := "fnExactSetField", unfollowed := true, recurses := true, apart := false, narrowed := true }
def FnExactSetFieldUptoSaid : Prop := fnExactSetFieldUptoRow.holds Try.pinned (OpenSpec.upto fnExactSetFieldSpec)

/-- 'laws.FnExactCopyObject', WHERE WHAT IT READS IS OF BULK AT MOST 1048576: true; the input reads as it did. -/
def fnExactCopyObjectUptoRow : OpenClaim := { program := "ytfnjieagnkmceaa", sum := "6a5bb288f58bb5eab6172f03edf92ea1375aa3225515de4ea6e9602622120431", func := "loop.example/g00873/laws.FnExactCopyObject", spec := "fnExactCopyObject", unfollowed := true, recurses := true, apart := false, narrowed := true }
def FnExactCopyObjectUptoSaid : Prop := fnExactCopyObjectUptoRow.holds Try.pinned (OpenSpec.upto fnExactCopyObjectSpec)

/-- 'laws.FnExactSetElement', WHERE WHAT IT READS IS OF BULK AT MOST 1048576: true; the input reads as it did. -/
def fnExactSetElementUptoRow : OpenClaim := { program := "ytfnjieagnkmceaa", sum := "6a5bb288f58bb5eab6172f03edf92ea1375aa3225515de4ea6e9602622120431", func := "loop.example/g00873/laws.FnExactSetElement", spec := "fnExactSetElement", unfollowed := true, recurses := true, apart := false, narrowed := true }
def FnExactSetElementUptoSaid : Prop := fnExactSetElementUptoRow.holds Try.pinned (OpenSpec.upto fnExactSetElementSpec)

/-- 'laws.FnExactNewArray', WHERE WHAT IT READS IS OF BULK AT MOST 1048576: true; the input reads as it did. -/
def fnExactNewArrayUptoRow : OpenClaim := { program := "ytfnjieagnkmceaa", sum := "6a5bb288f58bb5eab6172f03edf92ea1375aa3225515de4ea6e9602622120431", func := "loop.example/g00873/laws.FnExactNewArray", spec := "fnExactNewArray", unfollowed := true, recurses := true, apart := false, narrowed := true }
def FnExactNewArrayUptoSaid : Prop := fnExactNewArrayUptoRow.holds Try.pinned (OpenSpec.upto fnExactNewArraySpec)

/-- 'laws.FnExactCollectIfNeeded', WHERE WHAT IT READS IS OF BULK AT MOST 1048576: true; the input reads as it did. -/
def fnExactCollectIfNeededUptoRow : OpenClaim := { program := "ytfnjieagnkmceaa", sum := "6a5bb288f58bb5eab6172f03edf92ea1375aa3225515de4ea6e9602622120431", func := "loop.example/g00873/laws.FnExactCollectIfNeeded", spec := "fnExactCollectIfNeeded", unfollowed := true, recurses := true, apart := false, narrowed := true }
def FnExactCollectIfNeededUptoSaid : Prop := fnExactCollectIfNeededUptoRow.holds Try.pinned (OpenSpec.upto fnExactCollectIfNeededSpec)

/-- 'laws.FnHeap', WHERE WHAT IT READS IS OF BULK AT MOST 1048576: true; the input reads as it did. -/
def fnHeapUptoRow : OpenClaim := { program := "ytfnjieagnkmceaa", sum := "6a5bb288f58bb5eab6172f03edf92ea1375aa3225515de4ea6e9602622120431", func := "loop.example/g00873/laws.FnHeap", spec := "fnHeap", unfollowed := true, recurses := true, apart := false, narrowed := true }
def FnHeapUptoSaid : Prop := fnHeapUptoRow.holds Try.pinned (OpenSpec.upto fnHeapSpec)

/-- 'laws.FnCopies', WHERE WHAT IT READS IS OF BULK AT MOST 1048576: true; the input reads as it did. -/
def fnCopiesUptoRow : OpenClaim := { program := "ytfnjieagnkmceaa", sum := "6a5bb288f58bb5eab6172f03edf92ea1375aa3225515de4ea6e9602622120431", func := "loop.example/g00873/laws.FnCopies", spec := "fnCopies", unfollowed := true, recurses := true, apart := false, narrowed := true }
def FnCopiesUptoSaid : Prop := fnCopiesUptoRow.holds Try.pinned (OpenSpec.upto fnCopiesSpec)

end Rows
end Go.Proofs.Ytfnjieagnkmceaa
