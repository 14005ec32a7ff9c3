/-
  DERIVED. GIVEN WITH THE SEED: THE CARDS: each row of YtohkcdkmpencnaaGreatDoorRows.lean that lists a variable, with what it lists TIED to the program's text (the seventh form; the later family's looks); each row that meets fmt, with fmt's text TOLD by the authors' own Lean function (tested against real Go, not proved from fmt's source: count such statements apart). THE CARD IS WHAT COUNTS. Prove the row's statement (the work); the ties are given (YtohkcdkmpencnaaGreatDoorTie.lean); close each card by the builder's one call (the guide's Derived/Test/ToyasCard.lean, 'card_holds'). Laid BY PROGRAM, IN A SANDBOX (cutbox-door.mjs). By AI agents, Wed Nov 11 2026. No macro, syntax, notation, axiom, sorry.
-/
import Derived.Test.YtohkcdkmpencnaaGreatDoorRows
import GoSem.ClaimSeven
namespace Go.Proofs.YtohkcdkmpencnaaGreatDoor
namespace Rows

/-- THE TIED CARD OF 'laws.FnExactAddTrace'. -/
def fnExactAddTraceCard : Claim7 := { stood := { row := fnExactAddTraceRow, standIns := [], harness := (true, "5b6e28a6a09445fd777521f3d2cab197d6070573437842b0dd006a92795e2185"), looks := false }, kinds := [], alts := [], laidByText := true, laidKinds := [.data, .data, .data, .data, .pinned], laidTests := true, laidLooks := .later }
def FnExactAddTraceCardSaid : Prop := Claim7.holds Tryz.pinned (.plain (OpenSpec.ofChange fnExactAddTraceSpec)) fnExactAddTraceCard

/-- THE SECOND FORM's CARD OF 'laws.FnExactAddTrace'. -/
def fnExactAddTraceUptoCard : Claim7 := { stood := { row := fnExactAddTraceUptoRow, standIns := [], harness := (true, "5b6e28a6a09445fd777521f3d2cab197d6070573437842b0dd006a92795e2185"), looks := false }, kinds := [], alts := [], laidByText := true, laidKinds := [.data, .data, .data, .data, .pinned], laidTests := true, laidLooks := .later }
def FnExactAddTraceUptoCardSaid : Prop := Claim7.holds Tryz.pinned (.plain (OpenSpec.upto fnExactAddTraceSpec)) fnExactAddTraceUptoCard
end Rows
end Go.Proofs.YtohkcdkmpencnaaGreatDoor
