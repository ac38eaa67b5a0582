/-
  DERIVED. GIVEN WITH THE SEED: THE CARDS: each row of YtelacmgfpcmmjaaGreatDoorRows.lean that lists a variable, with what it lists TIED to the program's text (the seventh form; the later family's looks); each row that meets fmt, with fmt's text TOLD by the authors' own Lean function (tested against real Go, not proved from fmt's source: count such statements apart). THE CARD IS WHAT COUNTS. Prove the row's statement (the work); the ties are given (YtelacmgfpcmmjaaGreatDoorTie.lean); close each card by the builder's one call (the guide's Derived/Test/ToyasCard.lean, 'card_holds'). Laid BY PROGRAM, IN A SANDBOX (cutbox-door.mjs). By AI agents, Wed Nov 11 2026. No macro, syntax, notation, axiom, sorry.
-/
import Derived.Test.YtelacmgfpcmmjaaGreatDoorRows
import GoSem.ClaimSeven
namespace Go.Proofs.YtelacmgfpcmmjaaGreatDoor
namespace Rows

/-- THE TIED CARD OF 'wakemanlaw13.UnitsParts'. -/
def unitsPartsCard : Claim7 := { stood := { row := unitsPartsRow, standIns := [], harness := (true, "e749e3618b3c0a393fd758508ce5819c4c9591130dca23acf6b439eef272a10a"), looks := true }, kinds := [], alts := [], laidByText := true, laidKinds := [.data, .data, .data, .data, .sentinel, .sentinel, .widerDeep, .pinned, .pinned], laidTests := true, laidLooks := .later }
def UnitsPartsCardSaid : Prop := Claim7.holds Tryz.pinned (.plain (OpenSpec.ofChange unitsPartsSpec)) unitsPartsCard

/-- THE SECOND FORM's CARD OF 'wakemanlaw13.UnitsParts'. -/
def unitsPartsUptoCard : Claim7 := { stood := { row := unitsPartsUptoRow, standIns := [], harness := (true, "e749e3618b3c0a393fd758508ce5819c4c9591130dca23acf6b439eef272a10a"), looks := true }, kinds := [], alts := [], laidByText := true, laidKinds := [.data, .data, .data, .data, .sentinel, .sentinel, .widerDeep, .pinned, .pinned], laidTests := true, laidLooks := .later }
def UnitsPartsUptoCardSaid : Prop := Claim7.holds Tryz.pinned (.plain (OpenSpec.upto unitsPartsSpec)) unitsPartsUptoCard
end Rows
end Go.Proofs.YtelacmgfpcmmjaaGreatDoor
