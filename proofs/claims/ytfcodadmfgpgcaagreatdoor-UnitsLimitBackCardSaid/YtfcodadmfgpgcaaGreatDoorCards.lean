/-
  DERIVED. GIVEN WITH THE SEED: THE CARDS: each row of YtfcodadmfgpgcaaGreatDoorRows.lean that lists a variable, with what it lists TIED to the program's text (the seventh form; the later family's looks); each row that meets fmt, with fmt's text TOLD by the authors' own Lean function (tested against real Go, not proved from fmt's source: count such statements apart). THE CARD IS WHAT COUNTS. Prove the row's statement (the work); the ties are given (YtfcodadmfgpgcaaGreatDoorTie.lean); close each card by the builder's one call (the guide's Derived/Test/ToyasCard.lean, 'card_holds'). Laid BY PROGRAM, IN A SANDBOX (cutbox-door.mjs). By AI agents, Wed Nov 11 2026. No macro, syntax, notation, axiom, sorry.
-/
import Derived.Test.YtfcodadmfgpgcaaGreatDoorRows
import GoSem.ClaimSeven
namespace Go.Proofs.YtfcodadmfgpgcaaGreatDoor
namespace Rows

/-- THE TIED CARD OF 'wakemanlaw13.UnitsWords'. -/
def unitsWordsCard : Claim7 := { stood := { row := unitsWordsRow, standIns := [], harness := (true, "1e135c3aecdb8b2e0aac23e85ab109b0429e9b969c3618739e1c4ee96d795646"), looks := true }, kinds := [], alts := [], laidByText := true, laidKinds := [.data, .data, .data, .data, .sentinel, .sentinel, .widerDeep, .pinned, .pinned], laidTests := true, laidLooks := .later }
def UnitsWordsCardSaid : Prop := Claim7.holds Tryz.pinned (.plain (OpenSpec.ofChange unitsWordsSpec)) unitsWordsCard

/-- THE TIED CARD OF 'wakemanlaw13.UnitsParts'. -/
def unitsPartsCard : Claim7 := { stood := { row := unitsPartsRow, standIns := [], harness := (true, "1e135c3aecdb8b2e0aac23e85ab109b0429e9b969c3618739e1c4ee96d795646"), looks := true }, kinds := [], alts := [], laidByText := true, laidKinds := [.data, .data, .data, .data, .sentinel, .sentinel, .widerDeep, .pinned, .pinned], laidTests := true, laidLooks := .later }
def UnitsPartsCardSaid : Prop := Claim7.holds Tryz.pinned (.plain (OpenSpec.ofChange unitsPartsSpec)) unitsPartsCard

/-- THE TIED CARD OF 'wakemanlaw13.UnitsLimitBack'. -/
def unitsLimitBackCard : Claim7 := { stood := { row := unitsLimitBackRow, standIns := [], harness := (true, "1e135c3aecdb8b2e0aac23e85ab109b0429e9b969c3618739e1c4ee96d795646"), looks := true }, kinds := [], alts := [], laidByText := true, laidKinds := [.data, .data, .data, .data, .sentinel, .sentinel, .widerDeep, .pinned, .pinned], laidTests := true, laidLooks := .later }
def UnitsLimitBackCardSaid : Prop := Claim7.holds Tryz.pinned (.plain (OpenSpec.ofChange unitsLimitBackSpec)) unitsLimitBackCard

/-- THE SECOND FORM's CARD OF 'wakemanlaw13.UnitsWords'. -/
def unitsWordsUptoCard : Claim7 := { stood := { row := unitsWordsUptoRow, standIns := [], harness := (true, "1e135c3aecdb8b2e0aac23e85ab109b0429e9b969c3618739e1c4ee96d795646"), looks := true }, kinds := [], alts := [], laidByText := true, laidKinds := [.data, .data, .data, .data, .sentinel, .sentinel, .widerDeep, .pinned, .pinned], laidTests := true, laidLooks := .later }
def UnitsWordsUptoCardSaid : Prop := Claim7.holds Tryz.pinned (.plain (OpenSpec.upto unitsWordsSpec)) unitsWordsUptoCard

/-- THE SECOND FORM's CARD OF 'wakemanlaw13.UnitsParts'. -/
def unitsPartsUptoCard : Claim7 := { stood := { row := unitsPartsUptoRow, standIns := [], harness := (true, "1e135c3aecdb8b2e0aac23e85ab109b0429e9b969c3618739e1c4ee96d795646"), looks := true }, kinds := [], alts := [], laidByText := true, laidKinds := [.data, .data, .data, .data, .sentinel, .sentinel, .widerDeep, .pinned, .pinned], laidTests := true, laidLooks := .later }
def UnitsPartsUptoCardSaid : Prop := Claim7.holds Tryz.pinned (.plain (OpenSpec.upto unitsPartsSpec)) unitsPartsUptoCard

/-- THE SECOND FORM's CARD OF 'wakemanlaw13.UnitsLimitBack'. -/
def unitsLimitBackUptoCard : Claim7 := { stood := { row := unitsLimitBackUptoRow, standIns := [], harness := (true, "1e135c3aecdb8b2e0aac23e85ab109b0429e9b969c3618739e1c4ee96d795646"), looks := true }, kinds := [], alts := [], laidByText := true, laidKinds := [.data, .data, .data, .data, .sentinel, .sentinel, .widerDeep, .pinned, .pinned], laidTests := true, laidLooks := .later }
def UnitsLimitBackUptoCardSaid : Prop := Claim7.holds Tryz.pinned (.plain (OpenSpec.upto unitsLimitBackSpec)) unitsLimitBackUptoCard
end Rows
end Go.Proofs.YtfcodadmfgpgcaaGreatDoor
