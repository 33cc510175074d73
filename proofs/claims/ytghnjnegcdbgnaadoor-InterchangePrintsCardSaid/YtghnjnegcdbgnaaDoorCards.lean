/-
  DERIVED. GIVEN WITH THE SEED: THE CARDS: each row of YtghnjnegcdbgnaaDoorRows.lean that lists a variable, with what it lists TIED to the program's text (the seventh form; the later family's looks); each row that meets fmt, with fmt's text TOLD by the authors' own Lean function (tested against real Go, not proved from fmt's source: count such statements apart). THE CARD IS WHAT COUNTS. Prove the row's statement (the work); the ties are given (YtghnjnegcdbgnaaDoorTie.lean); close each card by the builder's one call (the guide's Derived/Test/ToyasCard.lean, 'card_holds'). Laid BY PROGRAM, IN A SANDBOX (cutbox-door.mjs). By AI agents, Wed Nov 11 2026. No macro, syntax, notation, axiom, sorry.
-/
import Derived.Test.YtghnjnegcdbgnaaDoorRows
import GoSem.ClaimSeven
namespace Go.Proofs.YtghnjnegcdbgnaaDoor
namespace Rows

/-- THE TIED CARD OF 'garmentlaw34.InterchangePrints'. -/
def interchangePrintsCard : Claim7 := { stood := { row := interchangePrintsRow, standIns := [], harness := (true, "81deed9c1d57bf89c24dfe3ca922cca7a4a0a4b74e2a3aaacf814b235987e955"), looks := true }, kinds := [], alts := [], laidByText := true, laidKinds := [.data, .data, .data, .data, .sentinel, .sentinel, .pinned], laidTests := true, laidLooks := .later }
def InterchangePrintsCardSaid : Prop := Claim7.holds Tryd.pinned (.plain (OpenSpec.ofChange interchangePrintsSpec)) interchangePrintsCard

/-- THE TIED CARD OF 'garmentlaw34.InterchangeRoundTrip'. -/
def interchangeRoundTripCard : Claim7 := { stood := { row := interchangeRoundTripRow, standIns := [], harness := (true, "81deed9c1d57bf89c24dfe3ca922cca7a4a0a4b74e2a3aaacf814b235987e955"), looks := true }, kinds := [], alts := [], laidByText := true, laidKinds := [.data, .data, .data, .data, .sentinel, .sentinel, .pinned], laidTests := true, laidLooks := .later }
def InterchangeRoundTripCardSaid : Prop := Claim7.holds Tryd.pinned (.plain (OpenSpec.ofChange interchangeRoundTripSpec)) interchangeRoundTripCard

/-- THE TIED CARD OF 'garmentlaw34.InterchangeAgain'. -/
def interchangeAgainCard : Claim7 := { stood := { row := interchangeAgainRow, standIns := [], harness := (true, "81deed9c1d57bf89c24dfe3ca922cca7a4a0a4b74e2a3aaacf814b235987e955"), looks := true }, kinds := [], alts := [], laidByText := true, laidKinds := [.data, .data, .data, .data, .sentinel, .sentinel, .pinned], laidTests := true, laidLooks := .later }
def InterchangeAgainCardSaid : Prop := Claim7.holds Tryd.pinned (.plain (OpenSpec.ofChange interchangeAgainSpec)) interchangeAgainCard

/-- THE TIED CARD OF 'garmentlaw34.InterchangeBefore'. -/
def interchangeBeforeCard : Claim7 := { stood := { row := interchangeBeforeRow, standIns := [], harness := (true, "81deed9c1d57bf89c24dfe3ca922cca7a4a0a4b74e2a3aaacf814b235987e955"), looks := true }, kinds := [], alts := [], laidByText := true, laidKinds := [.data, .data, .data, .data, .sentinel, .sentinel, .pinned], laidTests := true, laidLooks := .later }
def InterchangeBeforeCardSaid : Prop := Claim7.holds Tryd.pinned (.plain (OpenSpec.ofChange interchangeBeforeSpec)) interchangeBeforeCard

/-- THE TIED CARD OF 'garmentlaw34.InterchangePrefix'. -/
def interchangePrefixCard : Claim7 := { stood := { row := interchangePrefixRow, standIns := [], harness := (true, "81deed9c1d57bf89c24dfe3ca922cca7a4a0a4b74e2a3aaacf814b235987e955"), looks := true }, kinds := [], alts := [], laidByText := true, laidKinds := [.data, .data, .data, .data, .sentinel, .sentinel, .pinned], laidTests := true, laidLooks := .later }
def InterchangePrefixCardSaid : Prop := Claim7.holds Tryd.pinned (.plain (OpenSpec.ofChange interchangePrefixSpec)) interchangePrefixCard

/-- THE SECOND FORM's CARD OF 'garmentlaw34.InterchangePrints'. -/
def interchangePrintsUptoCard : Claim7 := { stood := { row := interchangePrintsUptoRow, standIns := [], harness := (true, "81deed9c1d57bf89c24dfe3ca922cca7a4a0a4b74e2a3aaacf814b235987e955"), looks := true }, kinds := [], alts := [], laidByText := true, laidKinds := [.data, .data, .data, .data, .sentinel, .sentinel, .pinned], laidTests := true, laidLooks := .later }
def InterchangePrintsUptoCardSaid : Prop := Claim7.holds Tryd.pinned (.plain (OpenSpec.upto interchangePrintsSpec)) interchangePrintsUptoCard

/-- THE SECOND FORM's CARD OF 'garmentlaw34.InterchangeRoundTrip'. -/
def interchangeRoundTripUptoCard : Claim7 := { stood := { row := interchangeRoundTripUptoRow, standIns := [], harness := (true, "81deed9c1d57bf89c24dfe3ca922cca7a4a0a4b74e2a3aaacf814b235987e955"), looks := true }, kinds := [], alts := [], laidByText := true, laidKinds := [.data, .data, .data, .data, .sentinel, .sentinel, .pinned], laidTests := true, laidLooks := .later }
def InterchangeRoundTripUptoCardSaid : Prop := Claim7.holds Tryd.pinned (.plain (OpenSpec.upto interchangeRoundTripSpec)) interchangeRoundTripUptoCard

/-- THE SECOND FORM's CARD OF 'garmentlaw34.InterchangeAgain'. -/
def interchangeAgainUptoCard : Claim7 := { stood := { row := interchangeAgainUptoRow, standIns := [], harness := (true, "81deed9c1d57bf89c24dfe3ca922cca7a4a0a4b74e2a3aaacf814b235987e955"), looks := true }, kinds := [], alts := [], laidByText := true, laidKinds := [.data, .data, .data, .data, .sentinel, .sentinel, .pinned], laidTests := true, laidLooks := .later }
def InterchangeAgainUptoCardSaid : Prop := Claim7.holds Tryd.pinned (.plain (OpenSpec.upto interchangeAgainSpec)) interchangeAgainUptoCard

/-- THE SECOND FORM's CARD OF 'garmentlaw34.InterchangeBefore'. -/
def interchangeBeforeUptoCard : Claim7 := { stood := { row := interchangeBeforeUptoRow, standIns := [], harness := (true, "81deed9c1d57bf89c24dfe3ca922cca7a4a0a4b74e2a3aaacf814b235987e955"), looks := true }, kinds := [], alts := [], laidByText := true, laidKinds := [.data, .data, .data, .data, .sentinel, .sentinel, .pinned], laidTests := true, laidLooks := .later }
def InterchangeBeforeUptoCardSaid : Prop := Claim7.holds Tryd.pinned (.plain (OpenSpec.upto interchangeBeforeSpec)) interchangeBeforeUptoCard

/-- THE SECOND FORM's CARD OF 'garmentlaw34.InterchangePrefix'. -/
def interchangePrefixUptoCard : Claim7 := { stood := { row := interchangePrefixUptoRow, standIns := [], harness := (true, "81deed9c1d57bf89c24dfe3ca922cca7a4a0a4b74e2a3aaacf814b235987e955"), looks := true }, kinds := [], alts := [], laidByText := true, laidKinds := [.data, .data, .data, .data, .sentinel, .sentinel, .pinned], laidTests := true, laidLooks := .later }
def InterchangePrefixUptoCardSaid : Prop := Claim7.holds Tryd.pinned (.plain (OpenSpec.upto interchangePrefixSpec)) interchangePrefixUptoCard
end Rows
end Go.Proofs.YtghnjnegcdbgnaaDoor
