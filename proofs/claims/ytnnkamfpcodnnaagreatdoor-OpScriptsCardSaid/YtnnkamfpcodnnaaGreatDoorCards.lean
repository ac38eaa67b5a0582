/-
  DERIVED. GIVEN WITH THE SEED: THE CARDS: each row of YtnnkamfpcodnnaaGreatDoorRows.lean that lists a variable, with what it lists TIED to the program's text (the seventh form; the later family's looks); each row that meets fmt, with fmt's text TOLD by the authors' own Lean function (tested against real Go, not proved from fmt's source: count such statements apart). THE CARD IS WHAT COUNTS. Prove the row's statement (the work); the ties are given (YtnnkamfpcodnnaaGreatDoorTie.lean); close each card by the builder's one call (the guide's Derived/Test/ToyasCard.lean, 'card_holds'). Laid BY PROGRAM, IN A SANDBOX (cutbox-door.mjs). By AI agents, Wed Nov 11 2026. No macro, syntax, notation, axiom, sorry.
-/
import Derived.Test.YtnnkamfpcodnnaaGreatDoorRows
import GoSem.ClaimSeven
namespace Go.Proofs.YtnnkamfpcodnnaaGreatDoor
namespace Rows

/-- THE TIED CARD OF 'wakemanlaw38.OpReads'. -/
def opReadsCard : Claim7 := { stood := { row := opReadsRow, standIns := [], harness := (true, "05636923ff2f04fab45735b1eed2b5c055fb8f7277cf5e9ee22ae7d2f24d1cff"), looks := true }, kinds := [], alts := [], laidByText := true, laidKinds := [.data, .data, .data, .sentinel, .sentinel], laidTests := true, laidLooks := .later }
def OpReadsCardSaid : Prop := Claim7.holds Tryz.pinned (.plain (OpenSpec.ofChange opReadsSpec)) opReadsCard

/-- THE TIED CARD OF 'wakemanlaw38.OpScripts'. -/
def opScriptsCard : Claim7 := { stood := { row := opScriptsRow, standIns := [], harness := (true, "05636923ff2f04fab45735b1eed2b5c055fb8f7277cf5e9ee22ae7d2f24d1cff"), looks := true }, kinds := [], alts := [], laidByText := true, laidKinds := [.data, .data, .data, .sentinel, .sentinel], laidTests := true, laidLooks := .later }
def OpScriptsCardSaid : Prop := Claim7.holds Tryz.pinned (.plain (OpenSpec.ofChange opScriptsSpec)) opScriptsCard

/-- THE SECOND FORM's CARD OF 'wakemanlaw38.OpReads'. -/
def opReadsUptoCard : Claim7 := { stood := { row := opReadsUptoRow, standIns := [], harness := (true, "05636923ff2f04fab45735b1eed2b5c055fb8f7277cf5e9ee22ae7d2f24d1cff"), looks := true }, kinds := [], alts := [], laidByText := true, laidKinds := [.data, .data, .data, .sentinel, .sentinel], laidTests := true, laidLooks := .later }
def OpReadsUptoCardSaid : Prop := Claim7.holds Tryz.pinned (.plain (OpenSpec.upto opReadsSpec)) opReadsUptoCard

/-- THE SECOND FORM's CARD OF 'wakemanlaw38.OpScripts'. -/
def opScriptsUptoCard : Claim7 := { stood := { row := opScriptsUptoRow, standIns := [], harness := (true, "05636923ff2f04fab45735b1eed2b5c055fb8f7277cf5e9ee22ae7d2f24d1cff"), looks := true }, kinds := [], alts := [], laidByText := true, laidKinds := [.data, .data, .data, .sentinel, .sentinel], laidTests := true, laidLooks := .later }
def OpScriptsUptoCardSaid : Prop := Claim7.holds Tryz.pinned (.plain (OpenSpec.upto opScriptsSpec)) opScriptsUptoCard
end Rows
end Go.Proofs.YtnnkamfpcodnnaaGreatDoor
