/-
  DERIVED. GIVEN WITH THE SEED: THE CARDS: each row of YtpjocfkolnfjiaaGreatDoorRows.lean that lists a variable, with what it lists TIED to the program's text (the seventh form; the later family's looks); each row that meets fmt, with fmt's text TOLD by the authors' own Lean function (tested against real Go, not proved from fmt's source: count such statements apart). THE CARD IS WHAT COUNTS. Prove the row's statement (the work); the ties are given (YtpjocfkolnfjiaaGreatDoorTie.lean); close each card by the builder's one call (the guide's Derived/Test/ToyasCard.lean, 'card_holds'). Laid BY PROGRAM, IN A SANDBOX (cutbox-door.mjs). By AI agents, Wed Nov 11 2026. No macro, syntax, notation, axiom, sorry.
-/
import Derived.Test.YtpjocfkolnfjiaaGreatDoorRows
import GoSem.ClaimSeven
namespace Go.Proofs.YtpjocfkolnfjiaaGreatDoor
namespace Rows

/-- THE TIED CARD OF 'wakemanlaw14.PolicySetsAll'. -/
def policySetsAllCard : Claim7 := { stood := { row := policySetsAllRow, standIns := [], harness := (true, "39bae273a6cdb8235b0070b69ae9bca436e4a2398d8f99f79b1d709a8939c9fe"), looks := true }, kinds := [], alts := [], laidByText := true, laidKinds := [.data, .data, .data, .data, .sentinel, .sentinel, .widerDeep, .pinned], laidTests := true, laidLooks := .later }
def PolicySetsAllCardSaid : Prop := Claim7.holds Tryz.pinned (.plain (OpenSpec.ofChange policySetsAllSpec)) policySetsAllCard

/-- THE SECOND FORM's CARD OF 'wakemanlaw14.PolicySetsAll'. -/
def policySetsAllUptoCard : Claim7 := { stood := { row := policySetsAllUptoRow, standIns := [], harness := (true, "39bae273a6cdb8235b0070b69ae9bca436e4a2398d8f99f79b1d709a8939c9fe"), looks := true }, kinds := [], alts := [], laidByText := true, laidKinds := [.data, .data, .data, .data, .sentinel, .sentinel, .widerDeep, .pinned], laidTests := true, laidLooks := .later }
def PolicySetsAllUptoCardSaid : Prop := Claim7.holds Tryz.pinned (.plain (OpenSpec.upto policySetsAllSpec)) policySetsAllUptoCard
end Rows
end Go.Proofs.YtpjocfkolnfjiaaGreatDoor
