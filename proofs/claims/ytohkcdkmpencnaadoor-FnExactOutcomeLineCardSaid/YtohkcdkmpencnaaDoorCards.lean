/-
  DERIVED. GIVEN WITH THE SEED: THE CARDS: each row of YtohkcdkmpencnaaDoorRows.lean that lists a variable, with what it lists TIED to the program's text (the seventh form; the later family's looks); each row that meets fmt, with fmt's text TOLD by the authors' own Lean function (tested against real Go, not proved from fmt's source: count such statements apart). THE CARD IS WHAT COUNTS. Prove the row's statement (the work); the ties are given (YtohkcdkmpencnaaDoorTie.lean); close each card by the builder's one call (the guide's Derived/Test/ToyasCard.lean, 'card_holds'). Laid BY PROGRAM, IN A SANDBOX (cutbox-door.mjs). By AI agents, Wed Nov 11 2026. No macro, syntax, notation, axiom, sorry.
-/
import Derived.Test.YtohkcdkmpencnaaDoorRows
import GoSem.ClaimSeven
namespace Go.Proofs.YtohkcdkmpencnaaDoor
namespace Rows

/-- THE TIED CARD OF 'laws.FnTraceLines'. -/
def fnTraceLinesCard : Claim7 := { stood := { row := fnTraceLinesRow, standIns := [], harness := (true, "ccf2018cfafd37e2e383d29f44b9e88e9c1a365c99bb089d53b08af0bd8eb915"), looks := false }, kinds := [], alts := [], laidByText := true, laidKinds := [.data, .data, .data, .data, .pinned], laidTests := true, laidLooks := .later }
def FnTraceLinesCardSaid : Prop := Claim7.holds Tryd.pinned (.plain (OpenSpec.ofChange fnTraceLinesSpec)) fnTraceLinesCard

/-- THE TIED CARD OF 'laws.FnExactMatchLine'. -/
def fnExactMatchLineCard : Claim7 := { stood := { row := fnExactMatchLineRow, standIns := [], harness := (true, "ccf2018cfafd37e2e383d29f44b9e88e9c1a365c99bb089d53b08af0bd8eb915"), looks := false }, kinds := [], alts := [], laidByText := true, laidKinds := [.data, .data, .data, .data, .pinned], laidTests := true, laidLooks := .later }
def FnExactMatchLineCardSaid : Prop := Claim7.holds Tryd.pinned (.plain (OpenSpec.ofChange fnExactMatchLineSpec)) fnExactMatchLineCard

/-- THE TIED CARD OF 'laws.FnExactOutcomeLine'. -/
def fnExactOutcomeLineCard : Claim7 := { stood := { row := fnExactOutcomeLineRow, standIns := [], harness := (true, "ccf2018cfafd37e2e383d29f44b9e88e9c1a365c99bb089d53b08af0bd8eb915"), looks := false }, kinds := [], alts := [], laidByText := true, laidKinds := [.data, .data, .data], laidTests := true, laidLooks := .later }
def FnExactOutcomeLineCardSaid : Prop := Claim7.holds Tryd.pinned (.plain (OpenSpec.ofChange fnExactOutcomeLineSpec)) fnExactOutcomeLineCard

/-- THE SECOND FORM's CARD OF 'laws.FnTraceLines'. -/
def fnTraceLinesUptoCard : Claim7 := { stood := { row := fnTraceLinesUptoRow, standIns := [], harness := (true, "ccf2018cfafd37e2e383d29f44b9e88e9c1a365c99bb089d53b08af0bd8eb915"), looks := false }, kinds := [], alts := [], laidByText := true, laidKinds := [.data, .data, .data, .data, .pinned], laidTests := true, laidLooks := .later }
def FnTraceLinesUptoCardSaid : Prop := Claim7.holds Tryd.pinned (.plain (OpenSpec.upto fnTraceLinesSpec)) fnTraceLinesUptoCard

/-- THE SECOND FORM's CARD OF 'laws.FnExactMatchLine'. -/
def fnExactMatchLineUptoCard : Claim7 := { stood := { row := fnExactMatchLineUptoRow, standIns := [], harness := (true, "ccf2018cfafd37e2e383d29f44b9e88e9c1a365c99bb089d53b08af0bd8eb915"), looks := false }, kinds := [], alts := [], laidByText := true, laidKinds := [.data, .data, .data, .data, .pinned], laidTests := true, laidLooks := .later }
def FnExactMatchLineUptoCardSaid : Prop := Claim7.holds Tryd.pinned (.plain (OpenSpec.upto fnExactMatchLineSpec)) fnExactMatchLineUptoCard

/-- THE SECOND FORM's CARD OF 'laws.FnExactOutcomeLine'. -/
def fnExactOutcomeLineUptoCard : Claim7 := { stood := { row := fnExactOutcomeLineUptoRow, standIns := [], harness := (true, "ccf2018cfafd37e2e383d29f44b9e88e9c1a365c99bb089d53b08af0bd8eb915"), looks := false }, kinds := [], alts := [], laidByText := true, laidKinds := [.data, .data, .data], laidTests := true, laidLooks := .later }
def FnExactOutcomeLineUptoCardSaid : Prop := Claim7.holds Tryd.pinned (.plain (OpenSpec.upto fnExactOutcomeLineSpec)) fnExactOutcomeLineUptoCard
end Rows
end Go.Proofs.YtohkcdkmpencnaaDoor
