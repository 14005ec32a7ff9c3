/-
  NARROWER THAN 'FOR EVERY INPUT', by the rows' own cells (each row's printed sentence says how): FnExactAltOf: loops · FnExactCatOf: loops · FnExactReplaceAll: loops · FnExactMatchSteps: loops.
  DERIVED. THE GIVEN ROWS OF THIS SEAT. 12 by the template 'for every input the law returns true; each argument reads behind the call as it read before'; 0 by the template 'total and deterministic' (their statements: YtkgmfmcpbgffpaaTotals.lean).
  GIVEN WITH THE SEED: the statements are not yours to turn. If you find one false, say at which input.
  Laid BY PROGRAM, IN A SANDBOX (cutbox-rows.mjs): the forced cells as the released guide's own fill.sh prints them over the translation 2550a2031998a7c9… (all of the seat's roots in one cut). By AI agents, Wed Nov 11 2026. No macro, syntax, notation, axiom, sorry.
-/
import Derived.Test.YtkgmfmcpbgffpaaChecked
import GoSem.Claim
import GoSem.ClaimJoined
import GoSem.ClaimMapViews
import Derived.JoinedTies
import Derived.KernelRfl
namespace Go.Proofs.Ytkgmfmcpbgffpaa
/- THE CELL 'sum', in the pinned program and in every row, IS THE sha256 OF THE DUMP (.gsa) THAT YtkgmfmcpbgffpaaProg.lean LOADS. Nothing in Lean hashes anything: it is a label: what it is worth is what the hold of that sum in a sandbox is worth. -/
noncomputable def Try.pinned : Pinned := { name := "ytkgmfmcpbgffpaa", sum := "2550a2031998a7c9727886bdc9cf1d92b06303af5f312f4eb4668cc9bb56fd40", checked := Try.checked }
namespace Rows
def none {H : Type} : Left H := { results := [], args := [] }

/-- 'laws.FnPatternChains': WHATEVER THE INPUT: true; the input reads as it did. -/
def fnPatternChainsSpec : ChangeSpec := { name := "fnPatternChains", fn := fun _ => fun
  | [d] => { results := [.lit (.bool true)], args := [d] }
  | _ => none }
def fnPatternChainsRow : OpenClaim := { program := "ytkgmfmcpbgffpaa", sum := "2550a2031998a7c9727886bdc9cf1d92b06303af5f312f4eb4668cc9bb56fd40", func := "loop.example/g00873/laws.FnPatternChains", spec := "fnPatternChains", unfollowed := true, recurses := true, apart := false }
def FnPatternChainsSaid : Prop := fnPatternChainsRow.holds Try.pinned (OpenSpec.ofChange fnPatternChainsSpec)

/-- ITS FALSE NEIGHBOUR: 'it returns false'. Refute it at one input. -/
def fnPatternChainsWrong : ChangeSpec := { name := "fnPatternChains", fn := fun _ => fun
  | [d] => { results := [.lit (.bool false)], args := [d] }
  | _ => none }
def FnPatternChainsWrongFalsely : Prop := fnPatternChainsRow.holds Try.pinned (OpenSpec.ofChange fnPatternChainsWrong)

/-- 'laws.FnExactAltOf': WHATEVER THE INPUT: true; the input reads as it did. -/
def fnExactAltOfSpec : ChangeSpec := { name := "fnExactAltOf", fn := fun _ => fun
  | [d] => { results := [.lit (.bool true)], args := [d] }
  | _ => none }
def fnExactAltOfRow : OpenClaim := { program := "ytkgmfmcpbgffpaa", sum := "2550a2031998a7c9727886bdc9cf1d92b06303af5f312f4eb4668cc9bb56fd40", func := "loop.example/g00873/laws.FnExactAltOf", spec := "fnExactAltOf", unfollowed := true, recurses := true, loops := true, apart := false }
def FnExactAltOfSaid : Prop := fnExactAltOfRow.holds Try.pinned (OpenSpec.ofChange fnExactAltOfSpec)

/-- ITS FALSE NEIGHBOUR: 'it returns false'. Refute it at one input. -/
def fnExactAltOfWrong : ChangeSpec := { name := "fnExactAltOf", fn := fun _ => fun
  | [d] => { results := [.lit (.bool false)], args := [d] }
  | _ => none }
def FnExactAltOfWrongFalsely : Prop := fnExactAltOfRow.holds Try.pinned (OpenSpec.ofChange fnExactAltOfWrong)

/-- 'laws.FnExactCatOf': WHATEVER THE INPUT: true; the input reads as it did. -/
def fnExactCatOfSpec : ChangeSpec := { name := "fnExactCatOf", fn := fun _ => fun
  | [d] => { results := [.lit (.bool true)], args := [d] }
  | _ => none }
def fnExactCatOfRow : OpenClaim := { program := "ytkgmfmcpbgffpaa", sum := "2550a2031998a7c9727886bdc9cf1d92b06303af5f312f4eb4668cc9bb56fd40", func := "loop.example/g00873/laws.FnExactCatOf", spec := "fnExactCatOf", unfollowed := true, recurses := true, loops := true, apart := false }
def FnExactCatOfSaid : Prop := fnExactCatOfRow.holds Try.pinned (OpenSpec.ofChange fnExactCatOfSpec)

/-- ITS FALSE NEIGHBOUR: 'it returns false'. Refute it at one input. -/
def fnExactCatOfWrong : ChangeSpec := { name := "fnExactCatOf", fn := fun _ => fun
  | [d] => { results := [.lit (.bool false)], args := [d] }
  | _ => none }
def FnExactCatOfWrongFalsely : Prop := fnExactCatOfRow.holds Try.pinned (OpenSpec.ofChange fnExactCatOfWrong)

/-- 'laws.FnReplaceAll': WHATEVER THE INPUT: true; the input reads as it did. -/
def fnReplaceAllSpec : ChangeSpec := { name := "fnReplaceAll", fn := fun _ => fun
  | [d] => { results := [.lit (.bool true)], args := [d] }
  | _ => none }
def fnReplaceAllRow : OpenClaim := { program := "ytkgmfmcpbgffpaa", sum := "2550a2031998a7c9727886bdc9cf1d92b06303af5f312f4eb4668cc9bb56fd40", func := "loop.example/g00873/laws.FnReplaceAll", spec := "fnReplaceAll", inPlace := ["internal/bytealg.IndexByteString", "internal/abi.NoEscape"], unfollowed := true, recurses := true, apart := false }
def FnReplaceAllSaid : Prop := fnReplaceAllRow.holds Try.pinned (OpenSpec.ofChange fnReplaceAllSpec)

/-- ITS FALSE NEIGHBOUR: 'it returns false'. Refute it at one input. -/
def fnReplaceAllWrong : ChangeSpec := { name := "fnReplaceAll", fn := fun _ => fun
  | [d] => { results := [.lit (.bool false)], args := [d] }
  | _ => none }
def FnReplaceAllWrongFalsely : Prop := fnReplaceAllRow.holds Try.pinned (OpenSpec.ofChange fnReplaceAllWrong)

/-- 'laws.FnExactReplaceAll': WHATEVER THE INPUT: true; the input reads as it did. -/
def fnExactReplaceAllSpec : ChangeSpec := { name := "fnExactReplaceAll", fn := fun _ => fun
  | [d1, d2, d3, d4, d5] => { results := [.lit (.bool true)], args := [d1, d2, d3, d4, d5] }
  | _ => none }
def fnExactReplaceAllRow : OpenClaim := { program := "ytkgmfmcpbgffpaa", sum := "2550a2031998a7c9727886bdc9cf1d92b06303af5f312f4eb4668cc9bb56fd40", func := "loop.example/g00873/laws.FnExactReplaceAll", spec := "fnExactReplaceAll", inPlace := ["internal/bytealg.IndexByteString", "internal/abi.NoEscape"], unfollowed := true, recurses := true, loops := true, apart := false }
def FnExactReplaceAllSaid : Prop := fnExactReplaceAllRow.holds Try.pinned (OpenSpec.ofChange fnExactReplaceAllSpec)

/-- ITS FALSE NEIGHBOUR: 'it returns false'. Refute it at one input. -/
def fnExactReplaceAllWrong : ChangeSpec := { name := "fnExactReplaceAll", fn := fun _ => fun
  | [d1, d2, d3, d4, d5] => { results := [.lit (.bool false)], args := [d1, d2, d3, d4, d5] }
  | _ => none }
def FnExactReplaceAllWrongFalsely : Prop := fnExactReplaceAllRow.holds Try.pinned (OpenSpec.ofChange fnExactReplaceAllWrong)

/-- 'laws.FnFuelMore': WHATEVER THE INPUT: true; the input reads as it did. -/
def fnFuelMoreSpec : ChangeSpec := { name := "fnFuelMore", fn := fun _ => fun
  | [d] => { results := [.lit (.bool true)], args := [d] }
  | _ => none }
def fnFuelMoreRow : OpenClaim := { program := "ytkgmfmcpbgffpaa", sum := "2550a2031998a7c9727886bdc9cf1d92b06303af5f312f4eb4668cc9bb56fd40", func := "loop.example/g00873/laws.FnFuelMore", spec := "fnFuelMore", inPlace := ["internal/bytealg.IndexByteString"], unfollowed := true, recurses := true, apart := false }
def FnFuelMoreSaid : Prop := fnFuelMoreRow.holds Try.pinned (OpenSpec.ofChange fnFuelMoreSpec)

/-- ITS FALSE NEIGHBOUR: 'it returns false'. Refute it at one input. -/
def fnFuelMoreWrong : ChangeSpec := { name := "fnFuelMore", fn := fun _ => fun
  | [d] => { results := [.lit (.bool false)], args := [d] }
  | _ => none }
def FnFuelMoreWrongFalsely : Prop := fnFuelMoreRow.holds Try.pinned (OpenSpec.ofChange fnFuelMoreWrong)

/-- 'laws.FnNodeCosts': WHATEVER THE INPUT: true; the input reads as it did. -/
def fnNodeCostsSpec : ChangeSpec := { name := "fnNodeCosts", fn := fun _ => fun
  | [d] => { results := [.lit (.bool true)], args := [d] }
  | _ => none }
def fnNodeCostsRow : OpenClaim := { program := "ytkgmfmcpbgffpaa", sum := "2550a2031998a7c9727886bdc9cf1d92b06303af5f312f4eb4668cc9bb56fd40", func := "loop.example/g00873/laws.FnNodeCosts", spec := "fnNodeCosts", inPlace := ["internal/bytealg.IndexByteString"], unfollowed := true, recurses := true, apart := false }
def FnNodeCostsSaid : Prop := fnNodeCostsRow.holds Try.pinned (OpenSpec.ofChange fnNodeCostsSpec)

/-- ITS FALSE NEIGHBOUR: 'it returns false'. Refute it at one input. -/
def fnNodeCostsWrong : ChangeSpec := { name := "fnNodeCosts", fn := fun _ => fun
  | [d] => { results := [.lit (.bool false)], args := [d] }
  | _ => none }
def FnNodeCostsWrongFalsely : Prop := fnNodeCostsRow.holds Try.pinned (OpenSpec.ofChange fnNodeCostsWrong)

/-- 'laws.FnJoined': WHATEVER THE INPUT: true; the input reads as it did. -/
def fnJoinedSpec : ChangeSpec := { name := "fnJoined", fn := fun _ => fun
  | [d] => { results := [.lit (.bool true)], args := [d] }
  | _ => none }
def fnJoinedRow : OpenClaim := { program := "ytkgmfmcpbgffpaa", sum := "2550a2031998a7c9727886bdc9cf1d92b06303af5f312f4eb4668cc9bb56fd40", func := "loop.example/g00873/laws.FnJoined", spec := "fnJoined", inPlace := ["internal/bytealg.IndexByteString"], unfollowed := true, recurses := true, apart := false }
def FnJoinedSaid : Prop := fnJoinedRow.holds Try.pinned (OpenSpec.ofChange fnJoinedSpec)

/-- ITS FALSE NEIGHBOUR: 'it returns false'. Refute it at one input. -/
def fnJoinedWrong : ChangeSpec := { name := "fnJoined", fn := fun _ => fun
  | [d] => { results := [.lit (.bool false)], args := [d] }
  | _ => none }
def FnJoinedWrongFalsely : Prop := fnJoinedRow.holds Try.pinned (OpenSpec.ofChange fnJoinedWrong)

/-- 'laws.FnSimplified': WHATEVER THE INPUT: true; the input reads as it did. -/
def fnSimplifiedSpec : ChangeSpec := { name := "fnSimplified", fn := fun _ => fun
  | [d] => { results := [.lit (.bool true)], args := [d] }
  | _ => none }
def fnSimplifiedRow : OpenClaim := { program := "ytkgmfmcpbgffpaa", sum := "2550a2031998a7c9727886bdc9cf1d92b06303af5f312f4eb4668cc9bb56fd40", func := "loop.example/g00873/laws.FnSimplified", spec := "fnSimplified", inPlace := ["internal/bytealg.IndexByteString"], unfollowed := true, recurses := true, apart := false }
def FnSimplifiedSaid : Prop := fnSimplifiedRow.holds Try.pinned (OpenSpec.ofChange fnSimplifiedSpec)

/-- ITS FALSE NEIGHBOUR: 'it returns false'. Refute it at one input. -/
def fnSimplifiedWrong : ChangeSpec := { name := "fnSimplified", fn := fun _ => fun
  | [d] => { results := [.lit (.bool false)], args := [d] }
  | _ => none }
def FnSimplifiedWrongFalsely : Prop := fnSimplifiedRow.holds Try.pinned (OpenSpec.ofChange fnSimplifiedWrong)

/-- 'laws.FnEndCosts': WHATEVER THE INPUT: true; the input reads as it did. -/
def fnEndCostsSpec : ChangeSpec := { name := "fnEndCosts", fn := fun _ => fun
  | [d] => { results := [.lit (.bool true)], args := [d] }
  | _ => none }
def fnEndCostsRow : OpenClaim := { program := "ytkgmfmcpbgffpaa", sum := "2550a2031998a7c9727886bdc9cf1d92b06303af5f312f4eb4668cc9bb56fd40", func := "loop.example/g00873/laws.FnEndCosts", spec := "fnEndCosts", inPlace := ["internal/bytealg.IndexByteString"], unfollowed := true, recurses := true, apart := false }
def FnEndCostsSaid : Prop := fnEndCostsRow.holds Try.pinned (OpenSpec.ofChange fnEndCostsSpec)

/-- ITS FALSE NEIGHBOUR: 'it returns false'. Refute it at one input. -/
def fnEndCostsWrong : ChangeSpec := { name := "fnEndCosts", fn := fun _ => fun
  | [d] => { results := [.lit (.bool false)], args := [d] }
  | _ => none }
def FnEndCostsWrongFalsely : Prop := fnEndCostsRow.holds Try.pinned (OpenSpec.ofChange fnEndCostsWrong)

/-- 'laws.FnCosts': WHATEVER THE INPUT: true; the input reads as it did. -/
def fnCostsSpec : ChangeSpec := { name := "fnCosts", fn := fun _ => fun
  | [d] => { results := [.lit (.bool true)], args := [d] }
  | _ => none }
def fnCostsRow : OpenClaim := { program := "ytkgmfmcpbgffpaa", sum := "2550a2031998a7c9727886bdc9cf1d92b06303af5f312f4eb4668cc9bb56fd40", func := "loop.example/g00873/laws.FnCosts", spec := "fnCosts", inPlace := ["internal/bytealg.IndexByteString"], unfollowed := true, recurses := true, apart := false }
def FnCostsSaid : Prop := fnCostsRow.holds Try.pinned (OpenSpec.ofChange fnCostsSpec)

/-- ITS FALSE NEIGHBOUR: 'it returns false'. Refute it at one input. -/
def fnCostsWrong : ChangeSpec := { name := "fnCosts", fn := fun _ => fun
  | [d] => { results := [.lit (.bool false)], args := [d] }
  | _ => none }
def FnCostsWrongFalsely : Prop := fnCostsRow.holds Try.pinned (OpenSpec.ofChange fnCostsWrong)

/-- 'laws.FnExactMatchSteps': WHATEVER THE INPUT: true; the input reads as it did. -/
def fnExactMatchStepsSpec : ChangeSpec := { name := "fnExactMatchSteps", fn := fun _ => fun
  | [d1, d2, d3, d4, d5] => { results := [.lit (.bool true)], args := [d1, d2, d3, d4, d5] }
  | _ => none }
def fnExactMatchStepsRow : OpenClaim := { program := "ytkgmfmcpbgffpaa", sum := "2550a2031998a7c9727886bdc9cf1d92b06303af5f312f4eb4668cc9bb56fd40", func := "loop.example/g00873/laws.FnExactMatchSteps", spec := "fnExactMatchSteps", inPlace := ["internal/bytealg.IndexByteString"], unfollowed := true, recurses := true, loops := true, apart := false }
def FnExactMatchStepsSaid : Prop := fnExactMatchStepsRow.holds Try.pinned (OpenSpec.ofChange fnExactMatchStepsSpec)

/-- ITS FALSE NEIGHBOUR: 'it returns false'. Refute it at one input. -/
def fnExactMatchStepsWrong : ChangeSpec := { name := "fnExactMatchSteps", fn := fun _ => fun
  | [d1, d2, d3, d4, d5] => { results := [.lit (.bool false)], args := [d1, d2, d3, d4, d5] }
  | _ => none }
def FnExactMatchStepsWrongFalsely : Prop := fnExactMatchStepsRow.holds Try.pinned (OpenSpec.ofChange fnExactMatchStepsWrong)

/- THE SECOND FORM. 'bulk': how many values and letters a reading holds, each counted each time it is reached (what is shared counts as often as it is met; a slice's spare places count too). A statement '..UptoSaid' is the law's where the arguments, and the package variables that the reading takes, are together of bulk at most 1048576: NARROWER than '..Said'. Prove '..Said' where nothing that the law and all that it calls make is longer than what came in: it says more and counts as full. Else prove '..UptoSaid'. A law counts once. -/
mutual
def uptoBulk {H : Type} : DataW H → Nat
  | .lit (.string bytes) => bytes.length + 1
  | .lit _ => 1
  | .nil => 1
  | .ptr d => uptoBulk d + 1
  | .slice elems spare => uptoBulkAll elems + uptoBulkAll spare + 1
  | .agg parts => uptoBulkAll parts + 1
  | .iface _ d => uptoBulk d + 1
  | .map entries => uptoBulkEntries entries + 1
  | .held _ => 1
def uptoBulkAll {H : Type} : List (DataW H) → Nat
  | [] => 0
  | d :: r => uptoBulk d + uptoBulkAll r
def uptoBulkEntries {H : Type} : List (Lit × DataW H) → Nat
  | [] => 0
  | x :: r => uptoBulkEntry x + uptoBulkEntries r
def uptoBulkEntry {H : Type} : Lit × DataW H → Nat
  | (.string bytes, d) => bytes.length + uptoBulk d + 1
  | (_, d) => uptoBulk d + 1
 end
def uptoSmall : (H : Type) → List (DataW H) → Bool := fun _ ds => decide (uptoBulkAll ds ≤ 1048576)
def OpenSpec.upto (s : _root_.Go.ChangeSpec) : _root_.Go.OpenSpec := { _root_.Go.OpenSpec.ofChange s with cond := some uptoSmall }

/-- 'laws.FnPatternChains', WHERE WHAT IT READS IS OF BULK AT MOST 1048576: true; the input reads as it did. -/
def fnPatternChainsUptoRow : OpenClaim := { program := "ytkgmfmcpbgffpaa", sum := "2550a2031998a7c9727886bdc9cf1d92b06303af5f312f4eb4668cc9bb56fd40", func := "loop.example/g00873/laws.FnPatternChains", spec := "fnPatternChains", unfollowed := true, recurses := true, apart := false, narrowed := true }
def FnPatternChainsUptoSaid : Prop := fnPatternChainsUptoRow.holds Try.pinned (OpenSpec.upto fnPatternChainsSpec)

/-- 'laws.FnExactAltOf', WHERE WHAT IT READS IS OF BULK AT MOST 1048576: true; the input reads as it did. -/
def fnExactAltOfUptoRow : OpenClaim := { program := "ytkgmfmcpbgffpaa", sum := "2550a2031998a7c9727886bdc9cf1d92b06303af5f312f4eb4668cc9bb56fd40", func := "loop.example/g00873/laws.FnExactAltOf", spec := "fnExactAltOf", unfollowed := true, recurses := true, loops := true, apart := false, narrowed := true }
def FnExactAltOfUptoSaid : Prop := fnExactAltOfUptoRow.holds Try.pinned (OpenSpec.upto fnExactAltOfSpec)

/-- 'laws.FnExactCatOf', WHERE WHAT IT READS IS OF BULK AT MOST 1048576: true; the input reads as it did. -/
def fnExactCatOfUptoRow : OpenClaim := { program := "ytkgmfmcpbgffpaa", sum := "2550a2031998a7c9727886bdc9cf1d92b06303af5f312f4eb4668cc9bb56fd40", func := "loop.example/g00873/laws.FnExactCatOf", spec := "fnExactCatOf", unfollowed := true, recurses := true, loops := true, apart := false, narrowed := true }
def FnExactCatOfUptoSaid : Prop := fnExactCatOfUptoRow.holds Try.pinned (OpenSpec.upto fnExactCatOfSpec)

/-- 'laws.FnReplaceAll', WHERE WHAT IT READS IS OF BULK AT MOST 1048576: true; the input reads as it did. -/
def fnReplaceAllUptoRow : OpenClaim := { program := "ytkgmfmcpbgffpaa", sum := "2550a2031998a7c9727886bdc9cf1d92b06303af5f312f4eb4668cc9bb56fd40", func := "loop.example/g00873/laws.FnReplaceAll", spec := "fnReplaceAll", inPlace := ["internal/bytealg.IndexByteString", "internal/abi.NoEscape"], unfollowed := true, recurses := true, apart := false, narrowed := true }
def FnReplaceAllUptoSaid : Prop := fnReplaceAllUptoRow.holds Try.pinned (OpenSpec.upto fnReplaceAllSpec)

/-- 'laws.FnExactReplaceAll', WHERE WHAT IT READS IS OF BULK AT MOST 1048576: true; the input reads as it did. -/
def fnExactReplaceAllUptoRow : OpenClaim := { program := "ytkgmfmcpbgffpaa", sum := "2550a2031998a7c9727886bdc9cf1d92b06303af5f312f4eb4668cc9bb56fd40", func := "loop.example/g00873/laws.FnExactReplaceAll", spec := "fnExactReplaceAll", inPlace := ["internal/bytealg.IndexByteString", "internal/abi.NoEscape"], unfollowed := true, recurses := true, loops := true, apart := false, narrowed := true }
def FnExactReplaceAllUptoSaid : Prop := fnExactReplaceAllUptoRow.holds Try.pinned (OpenSpec.upto fnExactReplaceAllSpec)

/-- 'laws.FnFuelMore', WHERE WHAT IT READS IS OF BULK AT MOST 1048576: true; the input reads as it did. -/
def fnFuelMoreUptoRow : OpenClaim := { program := "ytkgmfmcpbgffpaa", sum := "2550a2031998a7c9727886bdc9cf1d92b06303af5f312f4eb4668cc9bb56fd40", func := "loop.example/g00873/laws.FnFuelMore", spec := "fnFuelMore", inPlace := ["internal/bytealg.IndexByteString"], unfollowed := true, recurses := true, apart := false, narrowed := true }
def FnFuelMoreUptoSaid : Prop := fnFuelMoreUptoRow.holds Try.pinned (OpenSpec.upto fnFuelMoreSpec)

/-- 'laws.FnNodeCosts', WHERE WHAT IT READS IS OF BULK AT MOST 1048576: true; the input reads as it did. -/
def fnNodeCostsUptoRow : OpenClaim := { program := "ytkgmfmcpbgffpaa", sum := "2550a2031998a7c9727886bdc9cf1d92b06303af5f312f4eb4668cc9bb56fd40", func := "loop.example/g00873/laws.FnNodeCosts", spec := "fnNodeCosts", inPlace := ["internal/bytealg.IndexByteString"], unfollowed := true, recurses := true, apart := false, narrowed := true }
def FnNodeCostsUptoSaid : Prop := fnNodeCostsUptoRow.holds Try.pinned (OpenSpec.upto fnNodeCostsSpec)

/-- 'laws.FnJoined', WHERE WHAT IT READS IS OF BULK AT MOST 1048576: true; the input reads as it did. -/
def fnJoinedUptoRow : OpenClaim := { program := "ytkgmfmcpbgffpaa", sum := "2550a2031998a7c9727886bdc9cf1d92b06303af5f312f4eb4668cc9bb56fd40", func := "loop.example/g00873/laws.FnJoined", spec := "fnJoined", inPlace := ["internal/bytealg.IndexByteString"], unfollowed := true, recurses := true, apart := false, narrowed := true }
def FnJoinedUptoSaid : Prop := fnJoinedUptoRow.holds Try.pinned (OpenSpec.upto fnJoinedSpec)

/-- 'laws.FnSimplified', WHERE WHAT IT READS IS OF BULK AT MOST 1048576: true; the input reads as it did. -/
def fnSimplifiedUptoRow : OpenClaim := { program := "ytkgmfmcpbgffpaa", sum := "2550a2031998a7c9727886bdc9cf1d92b06303af5f312f4eb4668cc9bb56fd40", func := "loop.example/g00873/laws.FnSimplified", spec := "fnSimplified", inPlace := ["internal/bytealg.IndexByteString"], unfollowed := true, recurses := true, apart := false, narrowed := true }
def FnSimplifiedUptoSaid : Prop := fnSimplifiedUptoRow.holds Try.pinned (OpenSpec.upto fnSimplifiedSpec)

/-- 'laws.FnEndCosts', WHERE WHAT IT READS IS OF BULK AT MOST 1048576: true; the input reads as it did. -/
def fnEndCostsUptoRow : OpenClaim := { program := "ytkgmfmcpbgffpaa", sum := "2550a2031998a7c9727886bdc9cf1d92b06303af5f312f4eb4668cc9bb56fd40", func := "loop.example/g00873/laws.FnEndCosts", spec := "fnEndCosts", inPlace := ["internal/bytealg.IndexByteString"], unfollowed := true, recurses := true, apart := false, narrowed := true }
def FnEndCostsUptoSaid : Prop := fnEndCostsUptoRow.holds Try.pinned (OpenSpec.upto fnEndCostsSpec)

/-- 'laws.FnCosts', WHERE WHAT IT READS IS OF BULK AT MOST 1048576: true; the input reads as it did. -/
def fnCostsUptoRow : OpenClaim := { program := "ytkgmfmcpbgffpaa", sum := "2550a2031998a7c9727886bdc9cf1d92b06303af5f312f4eb4668cc9bb56fd40", func := "loop.example/g00873/laws.FnCosts", spec := "fnCosts", inPlace := ["internal/bytealg.IndexByteString"], unfollowed := true, recurses := true, apart := false, narrowed := true }
def FnCostsUptoSaid : Prop := fnCostsUptoRow.holds Try.pinned (OpenSpec.upto fnCostsSpec)

/-- 'laws.FnExactMatchSteps', WHERE WHAT IT READS IS OF BULK AT MOST 1048576: true; the input reads as it did. -/
def fnExactMatchStepsUptoRow : OpenClaim := { program := "ytkgmfmcpbgffpaa", sum := "2550a2031998a7c9727886bdc9cf1d92b06303af5f312f4eb4668cc9bb56fd40", func := "loop.example/g00873/laws.FnExactMatchSteps", spec := "fnExactMatchSteps", inPlace := ["internal/bytealg.IndexByteString"], unfollowed := true, recurses := true, loops := true, apart := false, narrowed := true }
def FnExactMatchStepsUptoSaid : Prop := fnExactMatchStepsUptoRow.holds Try.pinned (OpenSpec.upto fnExactMatchStepsSpec)

end Rows
end Go.Proofs.Ytkgmfmcpbgffpaa
