/-
  No cell of these rows narrows 'for every input' (looked for: loops, veiled, ifaces, maps, wideKeys, modest, calm, conditions, laid).
  DERIVED. THE GIVEN ROWS OF THIS SEAT. 7 by the template 'for every input the law returns true; each argument reads behind the call as it read before'; 0 by the template 'total and deterministic' (their statements: YtilalopohkdmdaaGreatTotals.lean).
  GIVEN WITH THE SEED: the statements are not yours to turn. If you find one false, say at which input.
  Laid BY PROGRAM, IN A SANDBOX (cutbox-rows.mjs): the forced cells as the released guide's own fill.sh prints them over the translation f2af1364572dea27… (all of the seat's roots in one cut). By AI agents, Wed Nov 11 2026. No macro, syntax, notation, axiom, sorry.
-/
import Derived.Test.YtilalopohkdmdaaGreatChecked
import GoSem.Claim
import GoSem.ClaimJoined
import GoSem.ClaimMapViews
import Derived.JoinedTies
import Derived.KernelRfl
namespace Go.Proofs.YtilalopohkdmdaaGreat
/- THE CELL 'sum', in the pinned program and in every row, IS THE sha256 OF THE DUMP (.gsa) THAT YtilalopohkdmdaaGreatProg.lean LOADS. Nothing in Lean hashes anything: it is a label: what it is worth is what the hold of that sum in a sandbox is worth. -/
noncomputable def Tryz.pinned : Pinned := { name := "ytilalopohkdmdaagreat", sum := "f2af1364572dea27955b491731916e1474b4b7c1fd681e02867a266524fb5d66", checked := Tryz.checked }
namespace Rows
def none {H : Type} : Left H := { results := [], args := [] }

/-- 'laws.FnAlternation': WHATEVER THE INPUT: true; the input reads as it did. -/
def fnAlternationSpec : ChangeSpec := { name := "fnAlternation", fn := fun _ => fun
  | [d] => { results := [.lit (.bool true)], args := [d] }
  | _ => none }
def fnAlternationRow : OpenClaim := { program := "ytilalopohkdmdaagreat", sum := "f2af1364572dea27955b491731916e1474b4b7c1fd681e02867a266524fb5d66", func := "loop.example/g00873/laws.FnAlternation", spec := "fnAlternation", inPlace := ["internal/bytealg.IndexByteString"], unfollowed := true, recurses := true, apart := false }
def FnAlternationSaid : Prop := fnAlternationRow.holds Tryz.pinned (OpenSpec.ofChange fnAlternationSpec)

/-- ITS FALSE NEIGHBOUR: 'it returns false'. Refute it at one input. -/
def fnAlternationWrong : ChangeSpec := { name := "fnAlternation", fn := fun _ => fun
  | [d] => { results := [.lit (.bool false)], args := [d] }
  | _ => none }
def FnAlternationWrongFalsely : Prop := fnAlternationRow.holds Tryz.pinned (OpenSpec.ofChange fnAlternationWrong)

/-- 'laws.FnConcatenation': WHATEVER THE INPUT: true; the input reads as it did. -/
def fnConcatenationSpec : ChangeSpec := { name := "fnConcatenation", fn := fun _ => fun
  | [d] => { results := [.lit (.bool true)], args := [d] }
  | _ => none }
def fnConcatenationRow : OpenClaim := { program := "ytilalopohkdmdaagreat", sum := "f2af1364572dea27955b491731916e1474b4b7c1fd681e02867a266524fb5d66", func := "loop.example/g00873/laws.FnConcatenation", spec := "fnConcatenation", inPlace := ["internal/bytealg.IndexByteString"], unfollowed := true, recurses := true, apart := false }
def FnConcatenationSaid : Prop := fnConcatenationRow.holds Tryz.pinned (OpenSpec.ofChange fnConcatenationSpec)

/-- ITS FALSE NEIGHBOUR: 'it returns false'. Refute it at one input. -/
def fnConcatenationWrong : ChangeSpec := { name := "fnConcatenation", fn := fun _ => fun
  | [d] => { results := [.lit (.bool false)], args := [d] }
  | _ => none }
def FnConcatenationWrongFalsely : Prop := fnConcatenationRow.holds Tryz.pinned (OpenSpec.ofChange fnConcatenationWrong)

/-- 'laws.FnFence': WHATEVER THE INPUT: true; the input reads as it did. -/
def fnFenceSpec : ChangeSpec := { name := "fnFence", fn := fun _ => fun
  | [d] => { results := [.lit (.bool true)], args := [d] }
  | _ => none }
def fnFenceRow : OpenClaim := { program := "ytilalopohkdmdaagreat", sum := "f2af1364572dea27955b491731916e1474b4b7c1fd681e02867a266524fb5d66", func := "loop.example/g00873/laws.FnFence", spec := "fnFence", inPlace := ["internal/bytealg.IndexByteString"], unfollowed := true, recurses := true, apart := false }
def FnFenceSaid : Prop := fnFenceRow.holds Tryz.pinned (OpenSpec.ofChange fnFenceSpec)

/-- ITS FALSE NEIGHBOUR: 'it returns false'. Refute it at one input. -/
def fnFenceWrong : ChangeSpec := { name := "fnFence", fn := fun _ => fun
  | [d] => { results := [.lit (.bool false)], args := [d] }
  | _ => none }
def FnFenceWrongFalsely : Prop := fnFenceRow.holds Tryz.pinned (OpenSpec.ofChange fnFenceWrong)

/-- 'laws.FnStarts': WHATEVER THE INPUT: true; the input reads as it did. -/
def fnStartsSpec : ChangeSpec := { name := "fnStarts", fn := fun _ => fun
  | [d] => { results := [.lit (.bool true)], args := [d] }
  | _ => none }
def fnStartsRow : OpenClaim := { program := "ytilalopohkdmdaagreat", sum := "f2af1364572dea27955b491731916e1474b4b7c1fd681e02867a266524fb5d66", func := "loop.example/g00873/laws.FnStarts", spec := "fnStarts", inPlace := ["internal/bytealg.IndexByteString"], unfollowed := true, recurses := true, apart := false }
def FnStartsSaid : Prop := fnStartsRow.holds Tryz.pinned (OpenSpec.ofChange fnStartsSpec)

/-- ITS FALSE NEIGHBOUR: 'it returns false'. Refute it at one input. -/
def fnStartsWrong : ChangeSpec := { name := "fnStarts", fn := fun _ => fun
  | [d] => { results := [.lit (.bool false)], args := [d] }
  | _ => none }
def FnStartsWrongFalsely : Prop := fnStartsRow.holds Tryz.pinned (OpenSpec.ofChange fnStartsWrong)

/-- 'laws.FnBalanced': WHATEVER THE INPUT: true; the input reads as it did. -/
def fnBalancedSpec : ChangeSpec := { name := "fnBalanced", fn := fun _ => fun
  | [d] => { results := [.lit (.bool true)], args := [d] }
  | _ => none }
def fnBalancedRow : OpenClaim := { program := "ytilalopohkdmdaagreat", sum := "f2af1364572dea27955b491731916e1474b4b7c1fd681e02867a266524fb5d66", func := "loop.example/g00873/laws.FnBalanced", spec := "fnBalanced", inPlace := ["internal/bytealg.IndexByteString"], unfollowed := true, recurses := true, apart := false }
def FnBalancedSaid : Prop := fnBalancedRow.holds Tryz.pinned (OpenSpec.ofChange fnBalancedSpec)

/-- ITS FALSE NEIGHBOUR: 'it returns false'. Refute it at one input. -/
def fnBalancedWrong : ChangeSpec := { name := "fnBalanced", fn := fun _ => fun
  | [d] => { results := [.lit (.bool false)], args := [d] }
  | _ => none }
def FnBalancedWrongFalsely : Prop := fnBalancedRow.holds Tryz.pinned (OpenSpec.ofChange fnBalancedWrong)

/-- 'laws.FnConditional': WHATEVER THE INPUT: true; the input reads as it did. -/
def fnConditionalSpec : ChangeSpec := { name := "fnConditional", fn := fun _ => fun
  | [d] => { results := [.lit (.bool true)], args := [d] }
  | _ => none }
def fnConditionalRow : OpenClaim := { program := "ytilalopohkdmdaagreat", sum := "f2af1364572dea27955b491731916e1474b4b7c1fd681e02867a266524fb5d66", func := "loop.example/g00873/laws.FnConditional", spec := "fnConditional", inPlace := ["internal/bytealg.IndexByteString"], unfollowed := true, recurses := true, apart := false }
def FnConditionalSaid : Prop := fnConditionalRow.holds Tryz.pinned (OpenSpec.ofChange fnConditionalSpec)

/-- ITS FALSE NEIGHBOUR: 'it returns false'. Refute it at one input. -/
def fnConditionalWrong : ChangeSpec := { name := "fnConditional", fn := fun _ => fun
  | [d] => { results := [.lit (.bool false)], args := [d] }
  | _ => none }
def FnConditionalWrongFalsely : Prop := fnConditionalRow.holds Tryz.pinned (OpenSpec.ofChange fnConditionalWrong)

/-- 'laws.FnReplaced': WHATEVER THE INPUT: true; the input reads as it did. -/
def fnReplacedSpec : ChangeSpec := { name := "fnReplaced", fn := fun _ => fun
  | [d] => { results := [.lit (.bool true)], args := [d] }
  | _ => none }
def fnReplacedRow : OpenClaim := { program := "ytilalopohkdmdaagreat", sum := "f2af1364572dea27955b491731916e1474b4b7c1fd681e02867a266524fb5d66", func := "loop.example/g00873/laws.FnReplaced", spec := "fnReplaced", inPlace := ["internal/bytealg.IndexByteString"], unfollowed := true, recurses := true, apart := false }
def FnReplacedSaid : Prop := fnReplacedRow.holds Tryz.pinned (OpenSpec.ofChange fnReplacedSpec)

/-- ITS FALSE NEIGHBOUR: 'it returns false'. Refute it at one input. -/
def fnReplacedWrong : ChangeSpec := { name := "fnReplaced", fn := fun _ => fun
  | [d] => { results := [.lit (.bool false)], args := [d] }
  | _ => none }
def FnReplacedWrongFalsely : Prop := fnReplacedRow.holds Tryz.pinned (OpenSpec.ofChange fnReplacedWrong)

/- THE SECOND FORM. 'bulk': how many values and letters a reading holds, each counted each time it is reached (what is shared counts as often as it is met; a slice's spare places count too). A statement '..UptoSaid' is the law's where the arguments, and the package variables that the reading takes, are together of bulk at most 1048576: NARROWER than '..Said'. Prove '..Said' where nothing that the law and all that it calls make is longer than what came in: it says more and counts as full. Else prove '..UptoSaid'. A law counts once. -/
mutual
def uptoBulk {H : Type} : DataW H → Nat
  | .lit (.string bytes) => bytes.length + 1
  | .lit _ => 1
  | .nil => 1
  | .ptr d => uptoBulk d + 1
  | .slice elems spare => uptoBulkAll elems + uptoBulkAll spare + 1
  | .agg parts => uptoBulkAll parts + 1
  | .iface _ d => uptoBulk d + 1
  | .map entries => uptoBulkEntries entries + 1
  | .held _ => 1
def uptoBulkAll {H : Type} : List (DataW H) → Nat
  | [] => 0
  | d :: r => uptoBulk d + uptoBulkAll r
def uptoBulkEntries {H : Type} : List (Lit × DataW H) → Nat
  | [] => 0
  | x :: r => uptoBulkEntry x + uptoBulkEntries r
def uptoBulkEntry {H : Type} : Lit × DataW H → Nat
  | (.string bytes, d) => bytes.length + uptoBulk d + 1
  | (_, d) => uptoBulk d + 1
 end
def uptoSmall : (H : Type) → List (DataW H) → Bool := fun _ ds => decide (uptoBulkAll ds ≤ 1048576)
def OpenSpec.upto (s : _root_.Go.ChangeSpec) : _root_.Go.OpenSpec := { _root_.Go.OpenSpec.ofChange s with cond := some uptoSmall }

/-- 'laws.FnAlternation', WHERE WHAT IT READS IS OF BULK AT MOST 1048576: true; the input reads as it did. -/
def fnAlternationUptoRow : OpenClaim := { program := "ytilalopohkdmdaagreat", sum := "f2af1364572dea27955b491731916e1474b4b7c1fd681e02867a266524fb5d66", func := "loop.example/g00873/laws.FnAlternation", spec := "fnAlternation", inPlace := ["internal/bytealg.IndexByteString"], unfollowed := true, recurses := true, apart := false, narrowed := true }
def FnAlternationUptoSaid : Prop := fnAlternationUptoRow.holds Tryz.pinned (OpenSpec.upto fnAlternationSpec)

/-- 'laws.FnConcatenation', WHERE WHAT IT READS IS OF BULK AT MOST 1048576: true; the input reads as it did. -/
def fnConcatenationUptoRow : OpenClaim := { program := "ytilalopohkdmdaagreat", sum := "f2af1364572dea27955b491731916e1474b4b7c1fd681e02867a266524fb5d66", func := "loop.example/g00873/laws.FnConcatenation", spec := "fnConcatenation", inPlace := ["internal/bytealg.IndexByteString"], unfollowed := true, recurses := true, apart := false, narrowed := true }
def FnConcatenationUptoSaid : Prop := fnConcatenationUptoRow.holds Tryz.pinned (OpenSpec.upto fnConcatenationSpec)

/-- 'laws.FnFence', WHERE WHAT IT READS IS OF BULK AT MOST 1048576: true; the input reads as it did. -/
def fnFenceUptoRow : OpenClaim := { program := "ytilalopohkdmdaagreat", sum := "f2af1364572dea27955b491731916e1474b4b7c1fd681e02867a266524fb5d66", func := "loop.example/g00873/laws.FnFence", spec := "fnFence", inPlace := ["internal/bytealg.IndexByteString"], unfollowed := true, recurses := true, apart := false, narrowed := true }
def FnFenceUptoSaid : Prop := fnFenceUptoRow.holds Tryz.pinned (OpenSpec.upto fnFenceSpec)

/-- 'laws.FnStarts', WHERE WHAT IT READS IS OF BULK AT MOST 1048576: true; the input reads as it did. -/
def fnStartsUptoRow : OpenClaim := { program := "ytilalopohkdmdaagreat", sum := "f2af1364572dea27955b491731916e1474b4b7c1fd681e02867a266524fb5d66", func := "loop.example/g00873/laws.FnStarts", spec := "fnStarts", inPlace := ["internal/bytealg.IndexByteString"], unfollowed := true, recurses := true, apart := false, narrowed := true }
def FnStartsUptoSaid : Prop := fnStartsUptoRow.holds Tryz.pinned (OpenSpec.upto fnStartsSpec)

/-- 'laws.FnBalanced', WHERE WHAT IT READS IS OF BULK AT MOST 1048576: true; the input reads as it did. -/
def fnBalancedUptoRow : OpenClaim := { program := "ytilalopohkdmdaagreat", sum := "f2af1364572dea27955b491731916e1474b4b7c1fd681e02867a266524fb5d66", func := "loop.example/g00873/laws.FnBalanced", spec := "fnBalanced", inPlace := ["internal/bytealg.IndexByteString"], unfollowed := true, recurses := true, apart := false, narrowed := true }
def FnBalancedUptoSaid : Prop := fnBalancedUptoRow.holds Tryz.pinned (OpenSpec.upto fnBalancedSpec)

/-- 'laws.FnConditional', WHERE WHAT IT READS IS OF BULK AT MOST 1048576: true; the input reads as it did. -/
def fnConditionalUptoRow : OpenClaim := { program := "ytilalopohkdmdaagreat", sum := "f2af1364572dea27955b491731916e1474b4b7c1fd681e02867a266524fb5d66", func := "loop.example/g00873/laws.FnConditional", spec := "fnConditional", inPlace := ["internal/bytealg.IndexByteString"], unfollowed := true, recurses := true, apart := false, narrowed := true }
def FnConditionalUptoSaid : Prop := fnConditionalUptoRow.holds Tryz.pinned (OpenSpec.upto fnConditionalSpec)

/-- 'laws.FnReplaced', WHERE WHAT IT READS IS OF BULK AT MOST 1048576: true; the input reads as it did. -/
def fnReplacedUptoRow : OpenClaim := { program := "ytilalopohkdmdaagreat", sum := "f2af1364572dea27955b491731916e1474b4b7c1fd681e02867a266524fb5d66", func := "loop.example/g00873/laws.FnReplaced", spec := "fnReplaced", inPlace := ["internal/bytealg.IndexByteString"], unfollowed := true, recurses := true, apart := false, narrowed := true }
def FnReplacedUptoSaid : Prop := fnReplacedUptoRow.holds Tryz.pinned (OpenSpec.upto fnReplacedSpec)

end Rows
end Go.Proofs.YtilalopohkdmdaaGreat
