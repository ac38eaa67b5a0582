/-
  DERIVED. GIVEN WITH THE SEED: THE CARDS: each row of YtfcodadmfgpgcaaDoorRows.lean that lists a variable, with what it lists TIED to the program's text (the seventh form; the later family's looks); each row that meets fmt, with fmt's text TOLD by the authors' own Lean function (tested against real Go, not proved from fmt's source: count such statements apart). THE CARD IS WHAT COUNTS. Prove the row's statement (the work); the ties are given (YtfcodadmfgpgcaaDoorTie.lean); close each card by the builder's one call (the guide's Derived/Test/ToyasCard.lean, 'card_holds'). Laid BY PROGRAM, IN A SANDBOX (cutbox-door.mjs). By AI agents, Wed Nov 11 2026. No macro, syntax, notation, axiom, sorry.
-/
import Derived.Test.YtfcodadmfgpgcaaDoorRows
import GoSem.ClaimSeven
namespace Go.Proofs.YtfcodadmfgpgcaaDoor
namespace Rows

/-- THE TIED CARD OF 'wakemanlaw13.UnitsHex'. -/
def unitsHexCard : Claim7 := { stood := { row := unitsHexRow, standIns := [], harness := (true, "bc9eeff789d35d4f92807cde88115ef6ff119c32e01b7e69d44ede1c85b1d0e5"), looks := true }, kinds := [], alts := [], laidByText := true, laidKinds := [.data, .data, .data, .data, .sentinel, .sentinel, .widerDeep, .pinned], laidTests := true, laidLooks := .later }
def UnitsHexCardSaid : Prop := Claim7.holds Tryd.pinned (.plain (OpenSpec.ofChange unitsHexSpec)) unitsHexCard

/-- THE TIED CARD OF 'wakemanlaw13.UnitsLimits'. -/
def unitsLimitsCard : Claim7 := { stood := { row := unitsLimitsRow, standIns := [], harness := (true, "bc9eeff789d35d4f92807cde88115ef6ff119c32e01b7e69d44ede1c85b1d0e5"), looks := true }, kinds := [], alts := [], laidByText := true, laidKinds := [.data, .data, .data, .data, .sentinel, .sentinel, .widerDeep, .pinned], laidTests := true, laidLooks := .later }
def UnitsLimitsCardSaid : Prop := Claim7.holds Tryd.pinned (.plain (OpenSpec.ofChange unitsLimitsSpec)) unitsLimitsCard

/-- THE SECOND FORM's CARD OF 'wakemanlaw13.UnitsHex'. -/
def unitsHexUptoCard : Claim7 := { stood := { row := unitsHexUptoRow, standIns := [], harness := (true, "bc9eeff789d35d4f92807cde88115ef6ff119c32e01b7e69d44ede1c85b1d0e5"), looks := true }, kinds := [], alts := [], laidByText := true, laidKinds := [.data, .data, .data, .data, .sentinel, .sentinel, .widerDeep, .pinned], laidTests := true, laidLooks := .later }
def UnitsHexUptoCardSaid : Prop := Claim7.holds Tryd.pinned (.plain (OpenSpec.upto unitsHexSpec)) unitsHexUptoCard

/-- THE SECOND FORM's CARD OF 'wakemanlaw13.UnitsLimits'. -/
def unitsLimitsUptoCard : Claim7 := { stood := { row := unitsLimitsUptoRow, standIns := [], harness := (true, "bc9eeff789d35d4f92807cde88115ef6ff119c32e01b7e69d44ede1c85b1d0e5"), looks := true }, kinds := [], alts := [], laidByText := true, laidKinds := [.data, .data, .data, .data, .sentinel, .sentinel, .widerDeep, .pinned], laidTests := true, laidLooks := .later }
def UnitsLimitsUptoCardSaid : Prop := Claim7.holds Tryd.pinned (.plain (OpenSpec.upto unitsLimitsSpec)) unitsLimitsUptoCard
end Rows
end Go.Proofs.YtfcodadmfgpgcaaDoor
