/-
  DERIVED. GIVEN WITH THE SEED: THE CARDS: each row of YtnjfnckodecofaaDoorRows.lean that lists a variable, with what it lists TIED to the program's text (the seventh form; the later family's looks); each row that meets fmt, with fmt's text TOLD by the authors' own Lean function (tested against real Go, not proved from fmt's source: count such statements apart). THE CARD IS WHAT COUNTS. Prove the row's statement (the work); the ties are given (YtnjfnckodecofaaDoorTie.lean); close each card by the builder's one call (the guide's Derived/Test/ToyasCard.lean, 'card_holds'). Laid BY PROGRAM, IN A SANDBOX (cutbox-door.mjs). By AI agents, Wed Nov 11 2026. No macro, syntax, notation, axiom, sorry.
-/
import Derived.Test.YtnjfnckodecofaaDoorRows
import GoSem.ClaimSeven
namespace Go.Proofs.YtnjfnckodecofaaDoor
namespace Rows

/-- THE TIED CARD OF 'wakemanlaw13.UnitsPrints'. -/
def unitsPrintsCard : Claim7 := { stood := { row := unitsPrintsRow, standIns := [], harness := (true, "7f83f27f67d12fdcd784276e3687d8d4d0735bc1f6061cab97cd31ea7e0c8915"), looks := true }, kinds := [], alts := [], laidByText := true, laidKinds := [.data, .data, .data, .data, .sentinel, .sentinel, .widerDeep, .pinned], laidTests := true, laidLooks := .later }
def UnitsPrintsCardSaid : Prop := Claim7.holds Tryd.pinned (.plain (OpenSpec.ofChange unitsPrintsSpec)) unitsPrintsCard

/-- THE TIED CARD OF 'wakemanlaw13.UnitsSeeds'. -/
def unitsSeedsCard : Claim7 := { stood := { row := unitsSeedsRow, standIns := [], harness := (true, "7f83f27f67d12fdcd784276e3687d8d4d0735bc1f6061cab97cd31ea7e0c8915"), looks := true }, kinds := [], alts := [], laidByText := true, laidKinds := [.data, .data, .data, .data, .sentinel, .sentinel, .widerDeep, .pinned], laidTests := true, laidLooks := .later }
def UnitsSeedsCardSaid : Prop := Claim7.holds Tryd.pinned (.plain (OpenSpec.ofChange unitsSeedsSpec)) unitsSeedsCard

/-- THE TIED CARD OF 'wakemanlaw13.UnitsInts'. -/
def unitsIntsCard : Claim7 := { stood := { row := unitsIntsRow, standIns := [], harness := (true, "7f83f27f67d12fdcd784276e3687d8d4d0735bc1f6061cab97cd31ea7e0c8915"), looks := true }, kinds := [], alts := [], laidByText := true, laidKinds := [.data, .data, .data, .data, .sentinel, .sentinel, .widerDeep, .pinned], laidTests := true, laidLooks := .later }
def UnitsIntsCardSaid : Prop := Claim7.holds Tryd.pinned (.plain (OpenSpec.ofChange unitsIntsSpec)) unitsIntsCard

/-- THE TIED CARD OF 'wakemanlaw13.UnitsPairs'. -/
def unitsPairsCard : Claim7 := { stood := { row := unitsPairsRow, standIns := [], harness := (true, "7f83f27f67d12fdcd784276e3687d8d4d0735bc1f6061cab97cd31ea7e0c8915"), looks := true }, kinds := [], alts := [], laidByText := true, laidKinds := [.data, .data, .data, .data, .sentinel, .sentinel, .widerDeep, .pinned], laidTests := true, laidLooks := .later }
def UnitsPairsCardSaid : Prop := Claim7.holds Tryd.pinned (.plain (OpenSpec.ofChange unitsPairsSpec)) unitsPairsCard

/-- THE TIED CARD OF 'wakemanlaw13.UnitsOver'. -/
def unitsOverCard : Claim7 := { stood := { row := unitsOverRow, standIns := [], harness := (true, "7f83f27f67d12fdcd784276e3687d8d4d0735bc1f6061cab97cd31ea7e0c8915"), looks := true }, kinds := [], alts := [], laidByText := true, laidKinds := [.data, .data, .data, .data, .sentinel, .sentinel, .widerDeep, .pinned], laidTests := true, laidLooks := .later }
def UnitsOverCardSaid : Prop := Claim7.holds Tryd.pinned (.plain (OpenSpec.ofChange unitsOverSpec)) unitsOverCard

/-- THE TIED CARD OF 'wakemanlaw13.UnitsHex'. -/
def unitsHexCard : Claim7 := { stood := { row := unitsHexRow, standIns := [], harness := (true, "7f83f27f67d12fdcd784276e3687d8d4d0735bc1f6061cab97cd31ea7e0c8915"), looks := true }, kinds := [], alts := [], laidByText := true, laidKinds := [.data, .data, .data, .data, .sentinel, .sentinel, .widerDeep, .pinned], laidTests := true, laidLooks := .later }
def UnitsHexCardSaid : Prop := Claim7.holds Tryd.pinned (.plain (OpenSpec.ofChange unitsHexSpec)) unitsHexCard

/-- THE TIED CARD OF 'wakemanlaw13.UnitsReads'. -/
def unitsReadsCard : Claim7 := { stood := { row := unitsReadsRow, standIns := [], harness := (true, "7f83f27f67d12fdcd784276e3687d8d4d0735bc1f6061cab97cd31ea7e0c8915"), looks := true }, kinds := [], alts := [], laidByText := true, laidKinds := [.data, .data, .data, .data, .sentinel, .sentinel, .widerDeep, .pinned], laidTests := true, laidLooks := .later }
def UnitsReadsCardSaid : Prop := Claim7.holds Tryd.pinned (.plain (OpenSpec.ofChange unitsReadsSpec)) unitsReadsCard

/-- THE TIED CARD OF 'wakemanlaw13.UnitsBack'. -/
def unitsBackCard : Claim7 := { stood := { row := unitsBackRow, standIns := [], harness := (true, "7f83f27f67d12fdcd784276e3687d8d4d0735bc1f6061cab97cd31ea7e0c8915"), looks := true }, kinds := [], alts := [], laidByText := true, laidKinds := [.data, .data, .data, .data, .sentinel, .sentinel, .widerDeep, .pinned], laidTests := true, laidLooks := .later }
def UnitsBackCardSaid : Prop := Claim7.holds Tryd.pinned (.plain (OpenSpec.ofChange unitsBackSpec)) unitsBackCard

/-- THE TIED CARD OF 'wakemanlaw13.UnitsLimits'. -/
def unitsLimitsCard : Claim7 := { stood := { row := unitsLimitsRow, standIns := [], harness := (true, "7f83f27f67d12fdcd784276e3687d8d4d0735bc1f6061cab97cd31ea7e0c8915"), looks := true }, kinds := [], alts := [], laidByText := true, laidKinds := [.data, .data, .data, .data, .sentinel, .sentinel, .widerDeep, .pinned], laidTests := true, laidLooks := .later }
def UnitsLimitsCardSaid : Prop := Claim7.holds Tryd.pinned (.plain (OpenSpec.ofChange unitsLimitsSpec)) unitsLimitsCard

/-- THE SECOND FORM's CARD OF 'wakemanlaw13.UnitsPrints'. -/
def unitsPrintsUptoCard : Claim7 := { stood := { row := unitsPrintsUptoRow, standIns := [], harness := (true, "7f83f27f67d12fdcd784276e3687d8d4d0735bc1f6061cab97cd31ea7e0c8915"), looks := true }, kinds := [], alts := [], laidByText := true, laidKinds := [.data, .data, .data, .data, .sentinel, .sentinel, .widerDeep, .pinned], laidTests := true, laidLooks := .later }
def UnitsPrintsUptoCardSaid : Prop := Claim7.holds Tryd.pinned (.plain (OpenSpec.upto unitsPrintsSpec)) unitsPrintsUptoCard

/-- THE SECOND FORM's CARD OF 'wakemanlaw13.UnitsSeeds'. -/
def unitsSeedsUptoCard : Claim7 := { stood := { row := unitsSeedsUptoRow, standIns := [], harness := (true, "7f83f27f67d12fdcd784276e3687d8d4d0735bc1f6061cab97cd31ea7e0c8915"), looks := true }, kinds := [], alts := [], laidByText := true, laidKinds := [.data, .data, .data, .data, .sentinel, .sentinel, .widerDeep, .pinned], laidTests := true, laidLooks := .later }
def UnitsSeedsUptoCardSaid : Prop := Claim7.holds Tryd.pinned (.plain (OpenSpec.upto unitsSeedsSpec)) unitsSeedsUptoCard

/-- THE SECOND FORM's CARD OF 'wakemanlaw13.UnitsInts'. -/
def unitsIntsUptoCard : Claim7 := { stood := { row := unitsIntsUptoRow, standIns := [], harness := (true, "7f83f27f67d12fdcd784276e3687d8d4d0735bc1f6061cab97cd31ea7e0c8915"), looks := true }, kinds := [], alts := [], laidByText := true, laidKinds := [.data, .data, .data, .data, .sentinel, .sentinel, .widerDeep, .pinned], laidTests := true, laidLooks := .later }
def UnitsIntsUptoCardSaid : Prop := Claim7.holds Tryd.pinned (.plain (OpenSpec.upto unitsIntsSpec)) unitsIntsUptoCard

/-- THE SECOND FORM's CARD OF 'wakemanlaw13.UnitsPairs'. -/
def unitsPairsUptoCard : Claim7 := { stood := { row := unitsPairsUptoRow, standIns := [], harness := (true, "7f83f27f67d12fdcd784276e3687d8d4d0735bc1f6061cab97cd31ea7e0c8915"), looks := true }, kinds := [], alts := [], laidByText := true, laidKinds := [.data, .data, .data, .data, .sentinel, .sentinel, .widerDeep, .pinned], laidTests := true, laidLooks := .later }
def UnitsPairsUptoCardSaid : Prop := Claim7.holds Tryd.pinned (.plain (OpenSpec.upto unitsPairsSpec)) unitsPairsUptoCard

/-- THE SECOND FORM's CARD OF 'wakemanlaw13.UnitsOver'. -/
def unitsOverUptoCard : Claim7 := { stood := { row := unitsOverUptoRow, standIns := [], harness := (true, "7f83f27f67d12fdcd784276e3687d8d4d0735bc1f6061cab97cd31ea7e0c8915"), looks := true }, kinds := [], alts := [], laidByText := true, laidKinds := [.data, .data, .data, .data, .sentinel, .sentinel, .widerDeep, .pinned], laidTests := true, laidLooks := .later }
def UnitsOverUptoCardSaid : Prop := Claim7.holds Tryd.pinned (.plain (OpenSpec.upto unitsOverSpec)) unitsOverUptoCard

/-- THE SECOND FORM's CARD OF 'wakemanlaw13.UnitsHex'. -/
def unitsHexUptoCard : Claim7 := { stood := { row := unitsHexUptoRow, standIns := [], harness := (true, "7f83f27f67d12fdcd784276e3687d8d4d0735bc1f6061cab97cd31ea7e0c8915"), looks := true }, kinds := [], alts := [], laidByText := true, laidKinds := [.data, .data, .data, .data, .sentinel, .sentinel, .widerDeep, .pinned], laidTests := true, laidLooks := .later }
def UnitsHexUptoCardSaid : Prop := Claim7.holds Tryd.pinned (.plain (OpenSpec.upto unitsHexSpec)) unitsHexUptoCard

/-- THE SECOND FORM's CARD OF 'wakemanlaw13.UnitsReads'. -/
def unitsReadsUptoCard : Claim7 := { stood := { row := unitsReadsUptoRow, standIns := [], harness := (true, "7f83f27f67d12fdcd784276e3687d8d4d0735bc1f6061cab97cd31ea7e0c8915"), looks := true }, kinds := [], alts := [], laidByText := true, laidKinds := [.data, .data, .data, .data, .sentinel, .sentinel, .widerDeep, .pinned], laidTests := true, laidLooks := .later }
def UnitsReadsUptoCardSaid : Prop := Claim7.holds Tryd.pinned (.plain (OpenSpec.upto unitsReadsSpec)) unitsReadsUptoCard

/-- THE SECOND FORM's CARD OF 'wakemanlaw13.UnitsBack'. -/
def unitsBackUptoCard : Claim7 := { stood := { row := unitsBackUptoRow, standIns := [], harness := (true, "7f83f27f67d12fdcd784276e3687d8d4d0735bc1f6061cab97cd31ea7e0c8915"), looks := true }, kinds := [], alts := [], laidByText := true, laidKinds := [.data, .data, .data, .data, .sentinel, .sentinel, .widerDeep, .pinned], laidTests := true, laidLooks := .later }
def UnitsBackUptoCardSaid : Prop := Claim7.holds Tryd.pinned (.plain (OpenSpec.upto unitsBackSpec)) unitsBackUptoCard

/-- THE SECOND FORM's CARD OF 'wakemanlaw13.UnitsLimits'. -/
def unitsLimitsUptoCard : Claim7 := { stood := { row := unitsLimitsUptoRow, standIns := [], harness := (true, "7f83f27f67d12fdcd784276e3687d8d4d0735bc1f6061cab97cd31ea7e0c8915"), looks := true }, kinds := [], alts := [], laidByText := true, laidKinds := [.data, .data, .data, .data, .sentinel, .sentinel, .widerDeep, .pinned], laidTests := true, laidLooks := .later }
def UnitsLimitsUptoCardSaid : Prop := Claim7.holds Tryd.pinned (.plain (OpenSpec.upto unitsLimitsSpec)) unitsLimitsUptoCard
end Rows
end Go.Proofs.YtnjfnckodecofaaDoor
