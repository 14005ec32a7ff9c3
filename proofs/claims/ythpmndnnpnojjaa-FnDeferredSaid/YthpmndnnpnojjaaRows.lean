/-
  NARROWER THAN 'FOR EVERY INPUT', by the rows' own cells (each row's printed sentence says how): FnExactAltOf: loops · FnExactCatOf: loops · FnExactLookupNamed: loops · FnExactCountMatches: loops · FnExactIsFullMatch: loops · FnExactEndsAt: loops · FnExactReplaceAll: loops.
  DERIVED. THE GIVEN ROWS OF THIS SEAT. 12 by the template 'for every input the law returns true; each argument reads behind the call as it read before'; 0 by the template 'total and deterministic' (their statements: YthpmndnnpnojjaaTotals.lean).
  GIVEN WITH THE SEED: the statements are not yours to turn. If you find one false, say at which input.
  Laid BY PROGRAM, IN A SANDBOX (cutbox-rows.mjs): the forced cells as the released guide's own fill.sh prints them over the translation b868dcd6450ba736… (all of the seat's roots in one cut). By AI agents, Wed Nov 11 2026. No macro, syntax, notation, axiom, sorry.
-/
import Derived.Test.YthpmndnnpnojjaaChecked
import GoSem.Claim
import GoSem.ClaimJoined
import GoSem.ClaimMapViews
import Derived.JoinedTies
import Derived.KernelRfl
namespace Go.Proofs.Ythpmndnnpnojjaa
/- THE CELL 'sum', in the pinned program and in every row, IS THE sha256 OF THE DUMP (.gsa) THAT YthpmndnnpnojjaaProg.lean LOADS. Nothing in Lean hashes anything: it is a label: what it is worth is what the hold of that sum in a sandbox is worth. -/
noncomputable def Try.pinned : Pinned := { name := "ythpmndnnpnojjaa", sum := "b868dcd6450ba736a19febb2ec4f97eea185180e9f788a453989bf2cbd112beb", checked := Try.checked }
namespace Rows
def none {H : Type} : Left H := { results := [], args := [] }

/-- 'laws.FnExactAltOf': WHATEVER THE INPUT: true; the input reads as it did. -/
def fnExactAltOfSpec : ChangeSpec := { name := "fnExactAltOf", fn := fun _ => fun
  | [d] => { results := [.lit (.bool true)], args := [d] }
  | _ => none }
def fnExactAltOfRow : OpenClaim := { program := "ythpmndnnpnojjaa", sum := "b868dcd6450ba736a19febb2ec4f97eea185180e9f788a453989bf2cbd112beb", func := "loop.example/g00873/laws.FnExactAltOf", spec := "fnExactAltOf", unfollowed := true, recurses := true, loops := true, apart := false }
def FnExactAltOfSaid : Prop := fnExactAltOfRow.holds Try.pinned (OpenSpec.ofChange fnExactAltOfSpec)

/-- ITS FALSE NEIGHBOUR: 'it returns false'. Refute it at one input. -/
def fnExactAltOfWrong : ChangeSpec := { name := "fnExactAltOf", fn := fun _ => fun
  | [d] => { results := [.lit (.bool false)], args := [d] }
  | _ => none }
def FnExactAltOfWrongFalsely : Prop := fnExactAltOfRow.holds Try.pinned (OpenSpec.ofChange fnExactAltOfWrong)

/-- 'laws.FnExactCatOf': WHATEVER THE INPUT: true; the input reads as it did. -/
def fnExactCatOfSpec : ChangeSpec := { name := "fnExactCatOf", fn := fun _ => fun
  | [d] => { results := [.lit (.bool true)], args := [d] }
  | _ => none }
def fnExactCatOfRow : OpenClaim := { program := "ythpmndnnpnojjaa", sum := "b868dcd6450ba736a19febb2ec4f97eea185180e9f788a453989bf2cbd112beb", func := "loop.example/g00873/laws.FnExactCatOf", spec := "fnExactCatOf", unfollowed := true, recurses := true, loops := true, apart := false }
def FnExactCatOfSaid : Prop := fnExactCatOfRow.holds Try.pinned (OpenSpec.ofChange fnExactCatOfSpec)

/-- ITS FALSE NEIGHBOUR: 'it returns false'. Refute it at one input. -/
def fnExactCatOfWrong : ChangeSpec := { name := "fnExactCatOf", fn := fun _ => fun
  | [d] => { results := [.lit (.bool false)], args := [d] }
  | _ => none }
def FnExactCatOfWrongFalsely : Prop := fnExactCatOfRow.holds Try.pinned (OpenSpec.ofChange fnExactCatOfWrong)

/-- 'laws.FnExactLookupNamed': WHATEVER THE INPUT: true; the input reads as it did. -/
def fnExactLookupNamedSpec : ChangeSpec := { name := "fnExactLookupNamed", fn := fun _ => fun
  | [d1, d2] => { results := [.lit (.bool true)], args := [d1, d2] }
  | _ => none }
def fnExactLookupNamedRow : OpenClaim := { program := "ythpmndnnpnojjaa", sum := "b868dcd6450ba736a19febb2ec4f97eea185180e9f788a453989bf2cbd112beb", func := "loop.example/g00873/laws.FnExactLookupNamed", spec := "fnExactLookupNamed", unfollowed := true, recurses := true, loops := true, apart := false }
def FnExactLookupNamedSaid : Prop := fnExactLookupNamedRow.holds Try.pinned (OpenSpec.ofChange fnExactLookupNamedSpec)

/-- ITS FALSE NEIGHBOUR: 'it returns false'. Refute it at one input. -/
def fnExactLookupNamedWrong : ChangeSpec := { name := "fnExactLookupNamed", fn := fun _ => fun
  | [d1, d2] => { results := [.lit (.bool false)], args := [d1, d2] }
  | _ => none }
def FnExactLookupNamedWrongFalsely : Prop := fnExactLookupNamedRow.holds Try.pinned (OpenSpec.ofChange fnExactLookupNamedWrong)

/-- 'laws.FnPatternChains': WHATEVER THE INPUT: true; the input reads as it did. -/
def fnPatternChainsSpec : ChangeSpec := { name := "fnPatternChains", fn := fun _ => fun
  | [d] => { results := [.lit (.bool true)], args := [d] }
  | _ => none }
def fnPatternChainsRow : OpenClaim := { program := "ythpmndnnpnojjaa", sum := "b868dcd6450ba736a19febb2ec4f97eea185180e9f788a453989bf2cbd112beb", func := "loop.example/g00873/laws.FnPatternChains", spec := "fnPatternChains", unfollowed := true, recurses := true, apart := false }
def FnPatternChainsSaid : Prop := fnPatternChainsRow.holds Try.pinned (OpenSpec.ofChange fnPatternChainsSpec)

/-- ITS FALSE NEIGHBOUR: 'it returns false'. Refute it at one input. -/
def fnPatternChainsWrong : ChangeSpec := { name := "fnPatternChains", fn := fun _ => fun
  | [d] => { results := [.lit (.bool false)], args := [d] }
  | _ => none }
def FnPatternChainsWrongFalsely : Prop := fnPatternChainsRow.holds Try.pinned (OpenSpec.ofChange fnPatternChainsWrong)

/-- 'laws.FnExactCountMatches': WHATEVER THE INPUT: true; the input reads as it did. -/
def fnExactCountMatchesSpec : ChangeSpec := { name := "fnExactCountMatches", fn := fun _ => fun
  | [d1, d2, d3, d4, d5] => { results := [.lit (.bool true)], args := [d1, d2, d3, d4, d5] }
  | _ => none }
def fnExactCountMatchesRow : OpenClaim := { program := "ythpmndnnpnojjaa", sum := "b868dcd6450ba736a19febb2ec4f97eea185180e9f788a453989bf2cbd112beb", func := "loop.example/g00873/laws.FnExactCountMatches", spec := "fnExactCountMatches", inPlace := ["internal/bytealg.IndexByteString"], unfollowed := true, recurses := true, loops := true, apart := false }
def FnExactCountMatchesSaid : Prop := fnExactCountMatchesRow.holds Try.pinned (OpenSpec.ofChange fnExactCountMatchesSpec)

/-- ITS FALSE NEIGHBOUR: 'it returns false'. Refute it at one input. -/
def fnExactCountMatchesWrong : ChangeSpec := { name := "fnExactCountMatches", fn := fun _ => fun
  | [d1, d2, d3, d4, d5] => { results := [.lit (.bool false)], args := [d1, d2, d3, d4, d5] }
  | _ => none }
def FnExactCountMatchesWrongFalsely : Prop := fnExactCountMatchesRow.holds Try.pinned (OpenSpec.ofChange fnExactCountMatchesWrong)

/-- 'laws.FnExactIsFullMatch': WHATEVER THE INPUT: true; the input reads as it did. -/
def fnExactIsFullMatchSpec : ChangeSpec := { name := "fnExactIsFullMatch", fn := fun _ => fun
  | [d1, d2, d3, d4] => { results := [.lit (.bool true)], args := [d1, d2, d3, d4] }
  | _ => none }
def fnExactIsFullMatchRow : OpenClaim := { program := "ythpmndnnpnojjaa", sum := "b868dcd6450ba736a19febb2ec4f97eea185180e9f788a453989bf2cbd112beb", func := "loop.example/g00873/laws.FnExactIsFullMatch", spec := "fnExactIsFullMatch", inPlace := ["internal/bytealg.IndexByteString"], unfollowed := true, recurses := true, loops := true, apart := false }
def FnExactIsFullMatchSaid : Prop := fnExactIsFullMatchRow.holds Try.pinned (OpenSpec.ofChange fnExactIsFullMatchSpec)

/-- ITS FALSE NEIGHBOUR: 'it returns false'. Refute it at one input. -/
def fnExactIsFullMatchWrong : ChangeSpec := { name := "fnExactIsFullMatch", fn := fun _ => fun
  | [d1, d2, d3, d4] => { results := [.lit (.bool false)], args := [d1, d2, d3, d4] }
  | _ => none }
def FnExactIsFullMatchWrongFalsely : Prop := fnExactIsFullMatchRow.holds Try.pinned (OpenSpec.ofChange fnExactIsFullMatchWrong)

/-- 'laws.FnExactEndsAt': WHATEVER THE INPUT: true; the input reads as it did. -/
def fnExactEndsAtSpec : ChangeSpec := { name := "fnExactEndsAt", fn := fun _ => fun
  | [d1, d2, d3, d4, d5] => { results := [.lit (.bool true)], args := [d1, d2, d3, d4, d5] }
  | _ => none }
def fnExactEndsAtRow : OpenClaim := { program := "ythpmndnnpnojjaa", sum := "b868dcd6450ba736a19febb2ec4f97eea185180e9f788a453989bf2cbd112beb", func := "loop.example/g00873/laws.FnExactEndsAt", spec := "fnExactEndsAt", inPlace := ["internal/bytealg.IndexByteString"], unfollowed := true, recurses := true, loops := true, apart := false }
def FnExactEndsAtSaid : Prop := fnExactEndsAtRow.holds Try.pinned (OpenSpec.ofChange fnExactEndsAtSpec)

/-- ITS FALSE NEIGHBOUR: 'it returns false'. Refute it at one input. -/
def fnExactEndsAtWrong : ChangeSpec := { name := "fnExactEndsAt", fn := fun _ => fun
  | [d1, d2, d3, d4, d5] => { results := [.lit (.bool false)], args := [d1, d2, d3, d4, d5] }
  | _ => none }
def FnExactEndsAtWrongFalsely : Prop := fnExactEndsAtRow.holds Try.pinned (OpenSpec.ofChange fnExactEndsAtWrong)

/-- 'laws.FnSpanBreak': WHATEVER THE INPUT: true; the input reads as it did. -/
def fnSpanBreakSpec : ChangeSpec := { name := "fnSpanBreak", fn := fun _ => fun
  | [d] => { results := [.lit (.bool true)], args := [d] }
  | _ => none }
def fnSpanBreakRow : OpenClaim := { program := "ythpmndnnpnojjaa", sum := "b868dcd6450ba736a19febb2ec4f97eea185180e9f788a453989bf2cbd112beb", func := "loop.example/g00873/laws.FnSpanBreak", spec := "fnSpanBreak", inPlace := ["internal/bytealg.IndexByteString"], unfollowed := true, recurses := true, apart := false }
def FnSpanBreakSaid : Prop := fnSpanBreakRow.holds Try.pinned (OpenSpec.ofChange fnSpanBreakSpec)

/-- ITS FALSE NEIGHBOUR: 'it returns false'. Refute it at one input. -/
def fnSpanBreakWrong : ChangeSpec := { name := "fnSpanBreak", fn := fun _ => fun
  | [d] => { results := [.lit (.bool false)], args := [d] }
  | _ => none }
def FnSpanBreakWrongFalsely : Prop := fnSpanBreakRow.holds Try.pinned (OpenSpec.ofChange fnSpanBreakWrong)

/-- 'laws.FnCursors': WHATEVER THE INPUT: true; the input reads as it did. -/
def fnCursorsSpec : ChangeSpec := { name := "fnCursors", fn := fun _ => fun
  | [d] => { results := [.lit (.bool true)], args := [d] }
  | _ => none }
def fnCursorsRow : OpenClaim := { program := "ythpmndnnpnojjaa", sum := "b868dcd6450ba736a19febb2ec4f97eea185180e9f788a453989bf2cbd112beb", func := "loop.example/g00873/laws.FnCursors", spec := "fnCursors", inPlace := ["internal/bytealg.IndexByteString"], unfollowed := true, recurses := true, apart := false }
def FnCursorsSaid : Prop := fnCursorsRow.holds Try.pinned (OpenSpec.ofChange fnCursorsSpec)

/-- ITS FALSE NEIGHBOUR: 'it returns false'. Refute it at one input. -/
def fnCursorsWrong : ChangeSpec := { name := "fnCursors", fn := fun _ => fun
  | [d] => { results := [.lit (.bool false)], args := [d] }
  | _ => none }
def FnCursorsWrongFalsely : Prop := fnCursorsRow.holds Try.pinned (OpenSpec.ofChange fnCursorsWrong)

/-- 'laws.FnExactReplaceAll': WHATEVER THE INPUT: true; the input reads as it did. -/
def fnExactReplaceAllSpec : ChangeSpec := { name := "fnExactReplaceAll", fn := fun _ => fun
  | [d1, d2, d3, d4, d5] => { results := [.lit (.bool true)], args := [d1, d2, d3, d4, d5] }
  | _ => none }
def fnExactReplaceAllRow : OpenClaim := { program := "ythpmndnnpnojjaa", sum := "b868dcd6450ba736a19febb2ec4f97eea185180e9f788a453989bf2cbd112beb", func := "loop.example/g00873/laws.FnExactReplaceAll", spec := "fnExactReplaceAll", inPlace := ["internal/bytealg.IndexByteString", "internal/abi.NoEscape"], unfollowed := true, recurses := true, loops := true, apart := false }
def FnExactReplaceAllSaid : Prop := fnExactReplaceAllRow.holds Try.pinned (OpenSpec.ofChange fnExactReplaceAllSpec)

/-- ITS FALSE NEIGHBOUR: 'it returns false'. Refute it at one input. -/
def fnExactReplaceAllWrong : ChangeSpec := { name := "fnExactReplaceAll", fn := fun _ => fun
  | [d1, d2, d3, d4, d5] => { results := [.lit (.bool false)], args := [d1, d2, d3, d4, d5] }
  | _ => none }
def FnExactReplaceAllWrongFalsely : Prop := fnExactReplaceAllRow.holds Try.pinned (OpenSpec.ofChange fnExactReplaceAllWrong)

/-- 'laws.FnAnchored': WHATEVER THE INPUT: true; the input reads as it did. -/
def fnAnchoredSpec : ChangeSpec := { name := "fnAnchored", fn := fun _ => fun
  | [d] => { results := [.lit (.bool true)], args := [d] }
  | _ => none }
def fnAnchoredRow : OpenClaim := { program := "ythpmndnnpnojjaa", sum := "b868dcd6450ba736a19febb2ec4f97eea185180e9f788a453989bf2cbd112beb", func := "loop.example/g00873/laws.FnAnchored", spec := "fnAnchored", inPlace := ["internal/bytealg.IndexByteString"], unfollowed := true, recurses := true, apart := false }
def FnAnchoredSaid : Prop := fnAnchoredRow.holds Try.pinned (OpenSpec.ofChange fnAnchoredSpec)

/-- ITS FALSE NEIGHBOUR: 'it returns false'. Refute it at one input. -/
def fnAnchoredWrong : ChangeSpec := { name := "fnAnchored", fn := fun _ => fun
  | [d] => { results := [.lit (.bool false)], args := [d] }
  | _ => none }
def FnAnchoredWrongFalsely : Prop := fnAnchoredRow.holds Try.pinned (OpenSpec.ofChange fnAnchoredWrong)

/-- 'laws.FnDeferred': WHATEVER THE INPUT: true; the input reads as it did. -/
def fnDeferredSpec : ChangeSpec := { name := "fnDeferred", fn := fun _ => fun
  | [d] => { results := [.lit (.bool true)], args := [d] }
  | _ => none }
def fnDeferredRow : OpenClaim := { program := "ythpmndnnpnojjaa", sum := "b868dcd6450ba736a19febb2ec4f97eea185180e9f788a453989bf2cbd112beb", func := "loop.example/g00873/laws.FnDeferred", spec := "fnDeferred", inPlace := ["internal/bytealg.IndexByteString"], unfollowed := true, recurses := true, apart := false }
def FnDeferredSaid : Prop := fnDeferredRow.holds Try.pinned (OpenSpec.ofChange fnDeferredSpec)

/-- ITS FALSE NEIGHBOUR: 'it returns false'. Refute it at one input. -/
def fnDeferredWrong : ChangeSpec := { name := "fnDeferred", fn := fun _ => fun
  | [d] => { results := [.lit (.bool false)], args := [d] }
  | _ => none }
def FnDeferredWrongFalsely : Prop := fnDeferredRow.holds Try.pinned (OpenSpec.ofChange fnDeferredWrong)

/- THE SECOND FORM. 'bulk': how many values and letters a reading holds, each counted each time it is reached (what is shared counts as often as it is met; a slice's spare places count too). A statement '..UptoSaid' is the law's where the arguments, and the package variables that the reading takes, are together of bulk at most 1048576: NARROWER than '..Said'. Prove '..Said' where nothing that the law and all that it calls make is longer than what came in: it says more and counts as full. Else prove '..UptoSaid'. A law counts once. -/
mutual
def uptoBulk {H : Type} : DataW H → Nat
  | .lit (.string bytes) => bytes.length + 1
  | .lit _ => 1
  | .nil => 1
  | .ptr d => uptoBulk d + 1
  | .slice elems spare => uptoBulkAll elems + uptoBulkAll spare + 1
  | .agg parts => uptoBulkAll parts + 1
  | .iface _ d => uptoBulk d + 1
  | .map entries => uptoBulkEntries entries + 1
  | .held _ => 1
def uptoBulkAll {H : Type} : List (DataW H) → Nat
  | [] => 0
  | d :: r => uptoBulk d + uptoBulkAll r
def uptoBulkEntries {H : Type} : List (Lit × DataW H) → Nat
  | [] => 0
  | x :: r => uptoBulkEntry x + uptoBulkEntries r
def uptoBulkEntry {H : Type} : Lit × DataW H → Nat
  | (.string bytes, d) => bytes.length + uptoBulk d + 1
  | (_, d) => uptoBulk d + 1
 end
def uptoSmall : (H : Type) → List (DataW H) → Bool := fun _ ds => decide (uptoBulkAll ds ≤ 1048576)
def OpenSpec.upto (s : _root_.Go.ChangeSpec) : _root_.Go.OpenSpec := { _root_.Go.OpenSpec.ofChange s with cond := some uptoSmall }

/-- 'laws.FnExactAltOf', WHERE WHAT IT READS IS OF BULK AT MOST 1048576: true; the input reads as it did. -/
def fnExactAltOfUptoRow : OpenClaim := { program := "ythpmndnnpnojjaa", sum := "b868dcd6450ba736a19febb2ec4f97eea185180e9f788a453989bf2cbd112beb", func := "loop.example/g00873/laws.FnExactAltOf", spec := "fnExactAltOf", unfollowed := true, recurses := true, loops := true, apart := false, narrowed := true }
def FnExactAltOfUptoSaid : Prop := fnExactAltOfUptoRow.holds Try.pinned (OpenSpec.upto fnExactAltOfSpec)

/-- 'laws.FnExactCatOf', WHERE WHAT IT READS IS OF BULK AT MOST 1048576: true; the input reads as it did. -/
def fnExactCatOfUptoRow : OpenClaim := { program := "ythpmndnnpnojjaa", sum := "b868dcd6450ba736a19febb2ec4f97eea185180e9f788a453989bf2cbd112beb", func := "loop.example/g00873/laws.FnExactCatOf", spec := "fnExactCatOf", unfollowed := true, recurses := true, loops := true, apart := false, narrowed := true }
def FnExactCatOfUptoSaid : Prop := fnExactCatOfUptoRow.holds Try.pinned (OpenSpec.upto fnExactCatOfSpec)

/-- 'laws.FnExactLookupNamed', WHERE WHAT IT READS IS OF BULK AT MOST 1048576: true; the input reads as it did. -/
def fnExactLookupNamedUptoRow : OpenClaim := { program := "ythpmndnnpnojjaa", sum := "b868dcd6450ba736a19febb2ec4f97eea185180e9f788a453989bf2cbd112beb", func := "loop.example/g00873/laws.FnExactLookupNamed", spec := "fnExactLookupNamed", unfollowed := true, recurses := true, loops := true, apart := false, narrowed := true }
def FnExactLookupNamedUptoSaid : Prop := fnExactLookupNamedUptoRow.holds Try.pinned (OpenSpec.upto fnExactLookupNamedSpec)

/-- 'laws.FnPatternChains', WHERE WHAT IT READS IS OF BULK AT MOST 1048576: true; the input reads as it did. -/
def fnPatternChainsUptoRow : OpenClaim := { program := "ythpmndnnpnojjaa", sum := "b868dcd6450ba736a19febb2ec4f97eea185180e9f788a453989bf2cbd112beb", func := "loop.example/g00873/laws.FnPatternChains", spec := "fnPatternChains", unfollowed := true, recurses := true, apart := false, narrowed := true }
def FnPatternChainsUptoSaid : Prop := fnPatternChainsUptoRow.holds Try.pinned (OpenSpec.upto fnPatternChainsSpec)

/-- 'laws.FnExactCountMatches', WHERE WHAT IT READS IS OF BULK AT MOST 1048576: true; the input reads as it did. -/
def fnExactCountMatchesUptoRow : OpenClaim := { program := "ythpmndnnpnojjaa", sum := "b868dcd6450ba736a19febb2ec4f97eea185180e9f788a453989bf2cbd112beb", func := "loop.example/g00873/laws.FnExactCountMatches", spec := "fnExactCountMatches", inPlace := ["internal/bytealg.IndexByteString"], unfollowed := true, recurses := true, loops := true, apart := false, narrowed := true }
def FnExactCountMatchesUptoSaid : Prop := fnExactCountMatchesUptoRow.holds Try.pinned (OpenSpec.upto fnExactCountMatchesSpec)

/-- 'laws.FnExactIsFullMatch', WHERE WHAT IT READS IS OF BULK AT MOST 1048576: true; the input reads as it did. -/
def fnExactIsFullMatchUptoRow : OpenClaim := { program := "ythpmndnnpnojjaa", sum := "b868dcd6450ba736a19febb2ec4f97eea185180e9f788a453989bf2cbd112beb", func := "loop.example/g00873/laws.FnExactIsFullMatch", spec := "fnExactIsFullMatch", inPlace := ["internal/bytealg.IndexByteString"], unfollowed := true, recurses := true, loops := true, apart := false, narrowed := true }
def FnExactIsFullMatchUptoSaid : Prop := fnExactIsFullMatchUptoRow.holds Try.pinned (OpenSpec.upto fnExactIsFullMatchSpec)

/-- 'laws.FnExactEndsAt', WHERE WHAT IT READS IS OF BULK AT MOST 1048576: true; the input reads as it did. -/
def fnExactEndsAtUptoRow : OpenClaim := { program := "ythpmndnnpnojjaa", sum := "b868dcd6450ba736a19febb2ec4f97eea185180e9f788a453989bf2cbd112beb", func := "loop.example/g00873/laws.FnExactEndsAt", spec := "fnExactEndsAt", inPlace := ["internal/bytealg.IndexByteString"], unfollowed := true, recurses := true, loops := true, apart := false, narrowed := true }
def FnExactEndsAtUptoSaid : Prop := fnExactEndsAtUptoRow.holds Try.pinned (OpenSpec.upto fnExactEndsAtSpec)

/-- 'laws.FnSpanBreak', WHERE WHAT IT READS IS OF BULK AT MOST 1048576: true; the input reads as it did. -/
def fnSpanBreakUptoRow : OpenClaim := { program := "ythpmndnnpnojjaa", sum := "b868dcd6450ba736a19febb2ec4f97eea185180e9f788a453989bf2cbd112beb", func := "loop.example/g00873/laws.FnSpanBreak", spec := "fnSpanBreak", inPlace := ["internal/bytealg.IndexByteString"], unfollowed := true, recurses := true, apart := false, narrowed := true }
def FnSpanBreakUptoSaid : Prop := fnSpanBreakUptoRow.holds Try.pinned (OpenSpec.upto fnSpanBreakSpec)

/-- 'laws.FnCursors', WHERE WHAT IT READS IS OF BULK AT MOST 1048576: true; the input reads as it did. -/
def fnCursorsUptoRow : OpenClaim := { program := "ythpmndnnpnojjaa", sum := "b868dcd6450ba736a19febb2ec4f97eea185180e9f788a453989bf2cbd112beb", func := "loop.example/g00873/laws.FnCursors", spec := "fnCursors", inPlace := ["internal/bytealg.IndexByteString"], unfollowed := true, recurses := true, apart := false, narrowed := true }
def FnCursorsUptoSaid : Prop := fnCursorsUptoRow.holds Try.pinned (OpenSpec.upto fnCursorsSpec)

/-- 'laws.FnExactReplaceAll', WHERE WHAT IT READS IS OF BULK AT MOST 1048576: true; the input reads as it did. -/
def fnExactReplaceAllUptoRow : OpenClaim := { program := "ythpmndnnpnojjaa", sum := "b868dcd6450ba736a19febb2ec4f97eea185180e9f788a453989bf2cbd112beb", func := "loop.example/g00873/laws.FnExactReplaceAll", spec := "fnExactReplaceAll", inPlace := ["internal/bytealg.IndexByteString", "internal/abi.NoEscape"], unfollowed := true, recurses := true, loops := true, apart := false, narrowed := true }
def FnExactReplaceAllUptoSaid : Prop := fnExactReplaceAllUptoRow.holds Try.pinned (OpenSpec.upto fnExactReplaceAllSpec)

/-- 'laws.FnAnchored', WHERE WHAT IT READS IS OF BULK AT MOST 1048576: true; the input reads as it did. -/
def fnAnchoredUptoRow : OpenClaim := { program := "ythpmndnnpnojjaa", sum := "b868dcd6450ba736a19febb2ec4f97eea185180e9f788a453989bf2cbd112beb", func := "loop.example/g00873/laws.FnAnchored", spec := "fnAnchored", inPlace := ["internal/bytealg.IndexByteString"], unfollowed := true, recurses := true, apart := false, narrowed := true }
def FnAnchoredUptoSaid : Prop := fnAnchoredUptoRow.holds Try.pinned (OpenSpec.upto fnAnchoredSpec)

/-- 'laws.FnDeferred', WHERE WHAT IT READS IS OF BULK AT MOST 1048576: true; the input reads as it did. -/
def fnDeferredUptoRow : OpenClaim := { program := "ythpmndnnpnojjaa", sum := "b868dcd6450ba736a19febb2ec4f97eea185180e9f788a453989bf2cbd112beb", func := "loop.example/g00873/laws.FnDeferred", spec := "fnDeferred", inPlace := ["internal/bytealg.IndexByteString"], unfollowed := true, recurses := true, apart := false, narrowed := true }
def FnDeferredUptoSaid : Prop := fnDeferredUptoRow.holds Try.pinned (OpenSpec.upto fnDeferredSpec)

end Rows
end Go.Proofs.Ythpmndnnpnojjaa
