/-
  DERIVED. GIVEN WITH THE SEED: THE CARDS: each row of YtfdojammchbboaaDoorRows.lean that lists a variable, with what it lists TIED to the program's text (the seventh form; the later family's looks); each row that meets fmt, with fmt's text TOLD by the authors' own Lean function (tested against real Go, not proved from fmt's source: count such statements apart). THE CARD IS WHAT COUNTS. Prove the row's statement (the work); the ties are given (YtfdojammchbboaaDoorTie.lean); close each card by the builder's one call (the guide's Derived/Test/ToyasCard.lean, 'card_holds'). Laid BY PROGRAM, IN A SANDBOX (cutbox-door.mjs). By AI agents, Wed Nov 11 2026. No macro, syntax, notation, axiom, sorry.
-/
import Derived.Test.YtfdojammchbboaaDoorRows
import GoSem.ClaimSeven
namespace Go.Proofs.YtfdojammchbboaaDoor
namespace Rows

/-- THE TIED CARD OF 'tholelaw24.StripePlaces'. -/
def stripePlacesCard : Claim7 := { stood := { row := stripePlacesRow, standIns := [], harness := (true, "1a54ea817f3827c32486a979ddb64fd8bff3aa1df25aaf5ceb67b67aa35d2fee"), looks := true }, kinds := [], alts := [], laidByText := true, laidKinds := [.data, .data, .data, .sentinel, .sentinel], laidTests := true, laidLooks := .later }
def StripePlacesCardSaid : Prop := Claim7.holds Tryd.pinned (.plain (OpenSpec.ofChange stripePlacesSpec)) stripePlacesCard

/-- THE TIED CARD OF 'tholelaw24.StripeNames'. -/
def stripeNamesCard : Claim7 := { stood := { row := stripeNamesRow, standIns := [], harness := (true, "1a54ea817f3827c32486a979ddb64fd8bff3aa1df25aaf5ceb67b67aa35d2fee"), looks := true }, kinds := [], alts := [], laidByText := true, laidKinds := [.data, .data, .data, .sentinel, .sentinel], laidTests := true, laidLooks := .later }
def StripeNamesCardSaid : Prop := Claim7.holds Tryd.pinned (.plain (OpenSpec.ofChange stripeNamesSpec)) stripeNamesCard

/-- THE TIED CARD OF 'tholelaw24.StripeExtents'. -/
def stripeExtentsCard : Claim7 := { stood := { row := stripeExtentsRow, standIns := [], harness := (true, "1a54ea817f3827c32486a979ddb64fd8bff3aa1df25aaf5ceb67b67aa35d2fee"), looks := true }, kinds := [], alts := [], laidByText := true, laidKinds := [.data, .data, .data, .sentinel, .sentinel], laidTests := true, laidLooks := .later }
def StripeExtentsCardSaid : Prop := Claim7.holds Tryd.pinned (.plain (OpenSpec.ofChange stripeExtentsSpec)) stripeExtentsCard

/-- THE TIED CARD OF 'tholelaw24.StripeSizes'. -/
def stripeSizesCard : Claim7 := { stood := { row := stripeSizesRow, standIns := [], harness := (true, "1a54ea817f3827c32486a979ddb64fd8bff3aa1df25aaf5ceb67b67aa35d2fee"), looks := true }, kinds := [], alts := [], laidByText := true, laidKinds := [.data, .data, .data, .sentinel, .sentinel], laidTests := true, laidLooks := .later }
def StripeSizesCardSaid : Prop := Claim7.holds Tryd.pinned (.plain (OpenSpec.ofChange stripeSizesSpec)) stripeSizesCard

/-- THE TIED CARD OF 'tholelaw24.StripeSplits'. -/
def stripeSplitsCard : Claim7 := { stood := { row := stripeSplitsRow, standIns := [], harness := (true, "1a54ea817f3827c32486a979ddb64fd8bff3aa1df25aaf5ceb67b67aa35d2fee"), looks := true }, kinds := [], alts := [], laidByText := true, laidKinds := [.data, .data, .data, .sentinel, .sentinel], laidTests := true, laidLooks := .later }
def StripeSplitsCardSaid : Prop := Claim7.holds Tryd.pinned (.plain (OpenSpec.ofChange stripeSplitsSpec)) stripeSplitsCard

/-- THE TIED CARD OF 'tholelaw24.StripeBack'. -/
def stripeBackCard : Claim7 := { stood := { row := stripeBackRow, standIns := [], harness := (true, "1a54ea817f3827c32486a979ddb64fd8bff3aa1df25aaf5ceb67b67aa35d2fee"), looks := true }, kinds := [], alts := [], laidByText := true, laidKinds := [.data, .data, .data, .sentinel, .sentinel], laidTests := true, laidLooks := .later }
def StripeBackCardSaid : Prop := Claim7.holds Tryd.pinned (.plain (OpenSpec.ofChange stripeBackSpec)) stripeBackCard

/-- THE SECOND FORM's CARD OF 'tholelaw24.StripePlaces'. -/
def stripePlacesUptoCard : Claim7 := { stood := { row := stripePlacesUptoRow, standIns := [], harness := (true, "1a54ea817f3827c32486a979ddb64fd8bff3aa1df25aaf5ceb67b67aa35d2fee"), looks := true }, kinds := [], alts := [], laidByText := true, laidKinds := [.data, .data, .data, .sentinel, .sentinel], laidTests := true, laidLooks := .later }
def StripePlacesUptoCardSaid : Prop := Claim7.holds Tryd.pinned (.plain (OpenSpec.upto stripePlacesSpec)) stripePlacesUptoCard

/-- THE SECOND FORM's CARD OF 'tholelaw24.StripeNames'. -/
def stripeNamesUptoCard : Claim7 := { stood := { row := stripeNamesUptoRow, standIns := [], harness := (true, "1a54ea817f3827c32486a979ddb64fd8bff3aa1df25aaf5ceb67b67aa35d2fee"), looks := true }, kinds := [], alts := [], laidByText := true, laidKinds := [.data, .data, .data, .sentinel, .sentinel], laidTests := true, laidLooks := .later }
def StripeNamesUptoCardSaid : Prop := Claim7.holds Tryd.pinned (.plain (OpenSpec.upto stripeNamesSpec)) stripeNamesUptoCard

/-- THE SECOND FORM's CARD OF 'tholelaw24.StripeExtents'. -/
def stripeExtentsUptoCard : Claim7 := { stood := { row := stripeExtentsUptoRow, standIns := [], harness := (true, "1a54ea817f3827c32486a979ddb64fd8bff3aa1df25aaf5ceb67b67aa35d2fee"), looks := true }, kinds := [], alts := [], laidByText := true, laidKinds := [.data, .data, .data, .sentinel, .sentinel], laidTests := true, laidLooks := .later }
def StripeExtentsUptoCardSaid : Prop := Claim7.holds Tryd.pinned (.plain (OpenSpec.upto stripeExtentsSpec)) stripeExtentsUptoCard

/-- THE SECOND FORM's CARD OF 'tholelaw24.StripeSizes'. -/
def stripeSizesUptoCard : Claim7 := { stood := { row := stripeSizesUptoRow, standIns := [], harness := (true, "1a54ea817f3827c32486a979ddb64fd8bff3aa1df25aaf5ceb67b67aa35d2fee"), looks := true }, kinds := [], alts := [], laidByText := true, laidKinds := [.data, .data, .data, .sentinel, .sentinel], laidTests := true, laidLooks := .later }
def StripeSizesUptoCardSaid : Prop := Claim7.holds Tryd.pinned (.plain (OpenSpec.upto stripeSizesSpec)) stripeSizesUptoCard

/-- THE SECOND FORM's CARD OF 'tholelaw24.StripeSplits'. -/
def stripeSplitsUptoCard : Claim7 := { stood := { row := stripeSplitsUptoRow, standIns := [], harness := (true, "1a54ea817f3827c32486a979ddb64fd8bff3aa1df25aaf5ceb67b67aa35d2fee"), looks := true }, kinds := [], alts := [], laidByText := true, laidKinds := [.data, .data, .data, .sentinel, .sentinel], laidTests := true, laidLooks := .later }
def StripeSplitsUptoCardSaid : Prop := Claim7.holds Tryd.pinned (.plain (OpenSpec.upto stripeSplitsSpec)) stripeSplitsUptoCard

/-- THE SECOND FORM's CARD OF 'tholelaw24.StripeBack'. -/
def stripeBackUptoCard : Claim7 := { stood := { row := stripeBackUptoRow, standIns := [], harness := (true, "1a54ea817f3827c32486a979ddb64fd8bff3aa1df25aaf5ceb67b67aa35d2fee"), looks := true }, kinds := [], alts := [], laidByText := true, laidKinds := [.data, .data, .data, .sentinel, .sentinel], laidTests := true, laidLooks := .later }
def StripeBackUptoCardSaid : Prop := Claim7.holds Tryd.pinned (.plain (OpenSpec.upto stripeBackSpec)) stripeBackUptoCard
end Rows
end Go.Proofs.YtfdojammchbboaaDoor
