/-
  DERIVED. GIVEN WITH THE SEED: THE CARDS: each row of YtgbidbhknffdoaaGreatDoorRows.lean that lists a variable, with what it lists TIED to the program's text (the seventh form; the later family's looks); each row that meets fmt, with fmt's text TOLD by the authors' own Lean function (tested against real Go, not proved from fmt's source: count such statements apart). THE CARD IS WHAT COUNTS. Prove the row's statement (the work); the ties are given (YtgbidbhknffdoaaGreatDoorTie.lean); close each card by the builder's one call (the guide's Derived/Test/ToyasCard.lean, 'card_holds'). Laid BY PROGRAM, IN A SANDBOX (cutbox-door.mjs). By AI agents, Wed Nov 11 2026. No macro, syntax, notation, axiom, sorry.
-/
import Derived.Test.YtgbidbhknffdoaaGreatDoorRows
import GoSem.ClaimSeven
namespace Go.Proofs.YtgbidbhknffdoaaGreatDoor
namespace Rows

/-- THE TIED CARD OF 'garmentlaw35.OrderPrints'. -/
def orderPrintsCard : Claim7 := { stood := { row := orderPrintsRow, standIns := [], harness := (true, "7fa1c9cf0c73b12b865892f548e924c42f01b108ff29252e78bd7ad81902ebd4"), looks := true }, kinds := [], alts := [], laidByText := true, laidKinds := [.data, .data, .data, .data, .sentinel, .sentinel, .pinned], laidTests := true, laidLooks := .later }
def OrderPrintsCardSaid : Prop := Claim7.holds Tryz.pinned (.plain (OpenSpec.ofChange orderPrintsSpec)) orderPrintsCard

/-- THE TIED CARD OF 'garmentlaw35.OrderSums'. -/
def orderSumsCard : Claim7 := { stood := { row := orderSumsRow, standIns := [], harness := (true, "7fa1c9cf0c73b12b865892f548e924c42f01b108ff29252e78bd7ad81902ebd4"), looks := true }, kinds := [], alts := [], laidByText := true, laidKinds := [.data, .data, .data, .data, .sentinel, .sentinel, .pinned], laidTests := true, laidLooks := .later }
def OrderSumsCardSaid : Prop := Claim7.holds Tryz.pinned (.plain (OpenSpec.ofChange orderSumsSpec)) orderSumsCard

/-- THE TIED CARD OF 'garmentlaw35.OrderRoundTrip'. -/
def orderRoundTripCard : Claim7 := { stood := { row := orderRoundTripRow, standIns := [], harness := (true, "7fa1c9cf0c73b12b865892f548e924c42f01b108ff29252e78bd7ad81902ebd4"), looks := true }, kinds := [], alts := [], laidByText := true, laidKinds := [.data, .data, .data, .data, .sentinel, .sentinel, .pinned], laidTests := true, laidLooks := .later }
def OrderRoundTripCardSaid : Prop := Claim7.holds Tryz.pinned (.plain (OpenSpec.ofChange orderRoundTripSpec)) orderRoundTripCard

/-- THE TIED CARD OF 'garmentlaw35.OrderTexts'. -/
def orderTextsCard : Claim7 := { stood := { row := orderTextsRow, standIns := [], harness := (true, "7fa1c9cf0c73b12b865892f548e924c42f01b108ff29252e78bd7ad81902ebd4"), looks := true }, kinds := [], alts := [], laidByText := true, laidKinds := [.data, .data, .data, .data, .sentinel, .sentinel, .pinned], laidTests := true, laidLooks := .later }
def OrderTextsCardSaid : Prop := Claim7.holds Tryz.pinned (.plain (OpenSpec.ofChange orderTextsSpec)) orderTextsCard

/-- THE TIED CARD OF 'garmentlaw35.OrderAdds'. -/
def orderAddsCard : Claim7 := { stood := { row := orderAddsRow, standIns := [], harness := (true, "7fa1c9cf0c73b12b865892f548e924c42f01b108ff29252e78bd7ad81902ebd4"), looks := true }, kinds := [], alts := [], laidByText := true, laidKinds := [.data, .data, .data, .data, .sentinel, .sentinel, .pinned], laidTests := true, laidLooks := .later }
def OrderAddsCardSaid : Prop := Claim7.holds Tryz.pinned (.plain (OpenSpec.ofChange orderAddsSpec)) orderAddsCard

/-- THE TIED CARD OF 'garmentlaw35.OrderCompare'. -/
def orderCompareCard : Claim7 := { stood := { row := orderCompareRow, standIns := [], harness := (true, "7fa1c9cf0c73b12b865892f548e924c42f01b108ff29252e78bd7ad81902ebd4"), looks := true }, kinds := [], alts := [], laidByText := true, laidKinds := [.data, .data, .data, .data, .sentinel, .sentinel, .pinned], laidTests := true, laidLooks := .later }
def OrderCompareCardSaid : Prop := Claim7.holds Tryz.pinned (.plain (OpenSpec.ofChange orderCompareSpec)) orderCompareCard

/-- THE TIED CARD OF 'garmentlaw35.OrderSwaps'. -/
def orderSwapsCard : Claim7 := { stood := { row := orderSwapsRow, standIns := [], harness := (true, "7fa1c9cf0c73b12b865892f548e924c42f01b108ff29252e78bd7ad81902ebd4"), looks := true }, kinds := [], alts := [], laidByText := true, laidKinds := [.data, .data, .data, .data, .sentinel, .sentinel, .pinned], laidTests := true, laidLooks := .later }
def OrderSwapsCardSaid : Prop := Claim7.holds Tryz.pinned (.plain (OpenSpec.ofChange orderSwapsSpec)) orderSwapsCard

/-- THE SECOND FORM's CARD OF 'garmentlaw35.OrderPrints'. -/
def orderPrintsUptoCard : Claim7 := { stood := { row := orderPrintsUptoRow, standIns := [], harness := (true, "7fa1c9cf0c73b12b865892f548e924c42f01b108ff29252e78bd7ad81902ebd4"), looks := true }, kinds := [], alts := [], laidByText := true, laidKinds := [.data, .data, .data, .data, .sentinel, .sentinel, .pinned], laidTests := true, laidLooks := .later }
def OrderPrintsUptoCardSaid : Prop := Claim7.holds Tryz.pinned (.plain (OpenSpec.upto orderPrintsSpec)) orderPrintsUptoCard

/-- THE SECOND FORM's CARD OF 'garmentlaw35.OrderSums'. -/
def orderSumsUptoCard : Claim7 := { stood := { row := orderSumsUptoRow, standIns := [], harness := (true, "7fa1c9cf0c73b12b865892f548e924c42f01b108ff29252e78bd7ad81902ebd4"), looks := true }, kinds := [], alts := [], laidByText := true, laidKinds := [.data, .data, .data, .data, .sentinel, .sentinel, .pinned], laidTests := true, laidLooks := .later }
def OrderSumsUptoCardSaid : Prop := Claim7.holds Tryz.pinned (.plain (OpenSpec.upto orderSumsSpec)) orderSumsUptoCard

/-- THE SECOND FORM's CARD OF 'garmentlaw35.OrderRoundTrip'. -/
def orderRoundTripUptoCard : Claim7 := { stood := { row := orderRoundTripUptoRow, standIns := [], harness := (true, "7fa1c9cf0c73b12b865892f548e924c42f01b108ff29252e78bd7ad81902ebd4"), looks := true }, kinds := [], alts := [], laidByText := true, laidKinds := [.data, .data, .data, .data, .sentinel, .sentinel, .pinned], laidTests := true, laidLooks := .later }
def OrderRoundTripUptoCardSaid : Prop := Claim7.holds Tryz.pinned (.plain (OpenSpec.upto orderRoundTripSpec)) orderRoundTripUptoCard

/-- THE SECOND FORM's CARD OF 'garmentlaw35.OrderTexts'. -/
def orderTextsUptoCard : Claim7 := { stood := { row := orderTextsUptoRow, standIns := [], harness := (true, "7fa1c9cf0c73b12b865892f548e924c42f01b108ff29252e78bd7ad81902ebd4"), looks := true }, kinds := [], alts := [], laidByText := true, laidKinds := [.data, .data, .data, .data, .sentinel, .sentinel, .pinned], laidTests := true, laidLooks := .later }
def OrderTextsUptoCardSaid : Prop := Claim7.holds Tryz.pinned (.plain (OpenSpec.upto orderTextsSpec)) orderTextsUptoCard

/-- THE SECOND FORM's CARD OF 'garmentlaw35.OrderAdds'. -/
def orderAddsUptoCard : Claim7 := { stood := { row := orderAddsUptoRow, standIns := [], harness := (true, "7fa1c9cf0c73b12b865892f548e924c42f01b108ff29252e78bd7ad81902ebd4"), looks := true }, kinds := [], alts := [], laidByText := true, laidKinds := [.data, .data, .data, .data, .sentinel, .sentinel, .pinned], laidTests := true, laidLooks := .later }
def OrderAddsUptoCardSaid : Prop := Claim7.holds Tryz.pinned (.plain (OpenSpec.upto orderAddsSpec)) orderAddsUptoCard

/-- THE SECOND FORM's CARD OF 'garmentlaw35.OrderCompare'. -/
def orderCompareUptoCard : Claim7 := { stood := { row := orderCompareUptoRow, standIns := [], harness := (true, "7fa1c9cf0c73b12b865892f548e924c42f01b108ff29252e78bd7ad81902ebd4"), looks := true }, kinds := [], alts := [], laidByText := true, laidKinds := [.data, .data, .data, .data, .sentinel, .sentinel, .pinned], laidTests := true, laidLooks := .later }
def OrderCompareUptoCardSaid : Prop := Claim7.holds Tryz.pinned (.plain (OpenSpec.upto orderCompareSpec)) orderCompareUptoCard

/-- THE SECOND FORM's CARD OF 'garmentlaw35.OrderSwaps'. -/
def orderSwapsUptoCard : Claim7 := { stood := { row := orderSwapsUptoRow, standIns := [], harness := (true, "7fa1c9cf0c73b12b865892f548e924c42f01b108ff29252e78bd7ad81902ebd4"), looks := true }, kinds := [], alts := [], laidByText := true, laidKinds := [.data, .data, .data, .data, .sentinel, .sentinel, .pinned], laidTests := true, laidLooks := .later }
def OrderSwapsUptoCardSaid : Prop := Claim7.holds Tryz.pinned (.plain (OpenSpec.upto orderSwapsSpec)) orderSwapsUptoCard
end Rows
end Go.Proofs.YtgbidbhknffdoaaGreatDoor
