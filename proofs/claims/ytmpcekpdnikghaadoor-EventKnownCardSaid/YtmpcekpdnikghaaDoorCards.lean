/-
  DERIVED. GIVEN WITH THE SEED: THE CARDS: each row of YtmpcekpdnikghaaDoorRows.lean that lists a variable, with what it lists TIED to the program's text (the seventh form; the later family's looks); each row that meets fmt, with fmt's text TOLD by the authors' own Lean function (tested against real Go, not proved from fmt's source: count such statements apart). THE CARD IS WHAT COUNTS. Prove the row's statement (the work); the ties are given (YtmpcekpdnikghaaDoorTie.lean); close each card by the builder's one call (the guide's Derived/Test/ToyasCard.lean, 'card_holds'). Laid BY PROGRAM, IN A SANDBOX (cutbox-door.mjs). By AI agents, Wed Nov 11 2026. No macro, syntax, notation, axiom, sorry.
-/
import Derived.Test.YtmpcekpdnikghaaDoorRows
import GoSem.ClaimSeven
namespace Go.Proofs.YtmpcekpdnikghaaDoor
namespace Rows

/-- THE TIED CARD OF 'wakemanlaw36.EventTexts'. -/
def eventTextsCard : Claim7 := { stood := { row := eventTextsRow, standIns := [], harness := (true, "90a7980eeb197929775aa0d6de83ea697b78322aac7f5578975216a2bf92bdb9"), looks := true }, kinds := [], alts := [], laidByText := true, laidKinds := [.data, .data, .data, .data, .sentinel, .sentinel, .widerDeep, .pinned], laidTests := true, laidLooks := .later }
def EventTextsCardSaid : Prop := Claim7.holds Tryd.pinned (.plain (OpenSpec.ofChange eventTextsSpec)) eventTextsCard

/-- THE TIED CARD OF 'wakemanlaw36.EventBack'. -/
def eventBackCard : Claim7 := { stood := { row := eventBackRow, standIns := [], harness := (true, "90a7980eeb197929775aa0d6de83ea697b78322aac7f5578975216a2bf92bdb9"), looks := true }, kinds := [], alts := [], laidByText := true, laidKinds := [.data, .data, .data, .data, .sentinel, .sentinel, .widerDeep, .pinned], laidTests := true, laidLooks := .later }
def EventBackCardSaid : Prop := Claim7.holds Tryd.pinned (.plain (OpenSpec.ofChange eventBackSpec)) eventBackCard

/-- THE TIED CARD OF 'wakemanlaw36.EventOnes'. -/
def eventOnesCard : Claim7 := { stood := { row := eventOnesRow, standIns := [], harness := (true, "90a7980eeb197929775aa0d6de83ea697b78322aac7f5578975216a2bf92bdb9"), looks := true }, kinds := [], alts := [], laidByText := true, laidKinds := [.data, .data, .data, .data, .sentinel, .sentinel, .widerDeep, .pinned], laidTests := true, laidLooks := .later }
def EventOnesCardSaid : Prop := Claim7.holds Tryd.pinned (.plain (OpenSpec.ofChange eventOnesSpec)) eventOnesCard

/-- THE TIED CARD OF 'wakemanlaw36.EventKnown'. -/
def eventKnownCard : Claim7 := { stood := { row := eventKnownRow, standIns := [], harness := (true, "90a7980eeb197929775aa0d6de83ea697b78322aac7f5578975216a2bf92bdb9"), looks := true }, kinds := [], alts := [], laidByText := true, laidKinds := [.data, .data, .data, .data, .sentinel, .sentinel, .widerDeep, .pinned], laidTests := true, laidLooks := .later }
def EventKnownCardSaid : Prop := Claim7.holds Tryd.pinned (.plain (OpenSpec.ofChange eventKnownSpec)) eventKnownCard

/-- THE TIED CARD OF 'wakemanlaw36.EventSame'. -/
def eventSameCard : Claim7 := { stood := { row := eventSameRow, standIns := [], harness := (true, "90a7980eeb197929775aa0d6de83ea697b78322aac7f5578975216a2bf92bdb9"), looks := true }, kinds := [], alts := [], laidByText := true, laidKinds := [.data, .data, .data, .data, .sentinel, .sentinel, .widerDeep, .pinned], laidTests := true, laidLooks := .later }
def EventSameCardSaid : Prop := Claim7.holds Tryd.pinned (.plain (OpenSpec.ofChange eventSameSpec)) eventSameCard

/-- THE TIED CARD OF 'wakemanlaw36.EventCounts'. -/
def eventCountsCard : Claim7 := { stood := { row := eventCountsRow, standIns := [], harness := (true, "90a7980eeb197929775aa0d6de83ea697b78322aac7f5578975216a2bf92bdb9"), looks := true }, kinds := [], alts := [], laidByText := true, laidKinds := [.data, .data, .data, .data, .sentinel, .sentinel, .widerDeep, .pinned], laidTests := true, laidLooks := .later }
def EventCountsCardSaid : Prop := Claim7.holds Tryd.pinned (.plain (OpenSpec.ofChange eventCountsSpec)) eventCountsCard

/-- THE TIED CARD OF 'wakemanlaw36.EventLines'. -/
def eventLinesCard : Claim7 := { stood := { row := eventLinesRow, standIns := [], harness := (true, "90a7980eeb197929775aa0d6de83ea697b78322aac7f5578975216a2bf92bdb9"), looks := true }, kinds := [], alts := [], laidByText := true, laidKinds := [.data, .data, .data, .data, .sentinel, .sentinel, .widerDeep, .pinned], laidTests := true, laidLooks := .later }
def EventLinesCardSaid : Prop := Claim7.holds Tryd.pinned (.plain (OpenSpec.ofChange eventLinesSpec)) eventLinesCard

/-- THE SECOND FORM's CARD OF 'wakemanlaw36.EventTexts'. -/
def eventTextsUptoCard : Claim7 := { stood := { row := eventTextsUptoRow, standIns := [], harness := (true, "90a7980eeb197929775aa0d6de83ea697b78322aac7f5578975216a2bf92bdb9"), looks := true }, kinds := [], alts := [], laidByText := true, laidKinds := [.data, .data, .data, .data, .sentinel, .sentinel, .widerDeep, .pinned], laidTests := true, laidLooks := .later }
def EventTextsUptoCardSaid : Prop := Claim7.holds Tryd.pinned (.plain (OpenSpec.upto eventTextsSpec)) eventTextsUptoCard

/-- THE SECOND FORM's CARD OF 'wakemanlaw36.EventBack'. -/
def eventBackUptoCard : Claim7 := { stood := { row := eventBackUptoRow, standIns := [], harness := (true, "90a7980eeb197929775aa0d6de83ea697b78322aac7f5578975216a2bf92bdb9"), looks := true }, kinds := [], alts := [], laidByText := true, laidKinds := [.data, .data, .data, .data, .sentinel, .sentinel, .widerDeep, .pinned], laidTests := true, laidLooks := .later }
def EventBackUptoCardSaid : Prop := Claim7.holds Tryd.pinned (.plain (OpenSpec.upto eventBackSpec)) eventBackUptoCard

/-- THE SECOND FORM's CARD OF 'wakemanlaw36.EventOnes'. -/
def eventOnesUptoCard : Claim7 := { stood := { row := eventOnesUptoRow, standIns := [], harness := (true, "90a7980eeb197929775aa0d6de83ea697b78322aac7f5578975216a2bf92bdb9"), looks := true }, kinds := [], alts := [], laidByText := true, laidKinds := [.data, .data, .data, .data, .sentinel, .sentinel, .widerDeep, .pinned], laidTests := true, laidLooks := .later }
def EventOnesUptoCardSaid : Prop := Claim7.holds Tryd.pinned (.plain (OpenSpec.upto eventOnesSpec)) eventOnesUptoCard

/-- THE SECOND FORM's CARD OF 'wakemanlaw36.EventKnown'. -/
def eventKnownUptoCard : Claim7 := { stood := { row := eventKnownUptoRow, standIns := [], harness := (true, "90a7980eeb197929775aa0d6de83ea697b78322aac7f5578975216a2bf92bdb9"), looks := true }, kinds := [], alts := [], laidByText := true, laidKinds := [.data, .data, .data, .data, .sentinel, .sentinel, .widerDeep, .pinned], laidTests := true, laidLooks := .later }
def EventKnownUptoCardSaid : Prop := Claim7.holds Tryd.pinned (.plain (OpenSpec.upto eventKnownSpec)) eventKnownUptoCard

/-- THE SECOND FORM's CARD OF 'wakemanlaw36.EventSame'. -/
def eventSameUptoCard : Claim7 := { stood := { row := eventSameUptoRow, standIns := [], harness := (true, "90a7980eeb197929775aa0d6de83ea697b78322aac7f5578975216a2bf92bdb9"), looks := true }, kinds := [], alts := [], laidByText := true, laidKinds := [.data, .data, .data, .data, .sentinel, .sentinel, .widerDeep, .pinned], laidTests := true, laidLooks := .later }
def EventSameUptoCardSaid : Prop := Claim7.holds Tryd.pinned (.plain (OpenSpec.upto eventSameSpec)) eventSameUptoCard

/-- THE SECOND FORM's CARD OF 'wakemanlaw36.EventCounts'. -/
def eventCountsUptoCard : Claim7 := { stood := { row := eventCountsUptoRow, standIns := [], harness := (true, "90a7980eeb197929775aa0d6de83ea697b78322aac7f5578975216a2bf92bdb9"), looks := true }, kinds := [], alts := [], laidByText := true, laidKinds := [.data, .data, .data, .data, .sentinel, .sentinel, .widerDeep, .pinned], laidTests := true, laidLooks := .later }
def EventCountsUptoCardSaid : Prop := Claim7.holds Tryd.pinned (.plain (OpenSpec.upto eventCountsSpec)) eventCountsUptoCard

/-- THE SECOND FORM's CARD OF 'wakemanlaw36.EventLines'. -/
def eventLinesUptoCard : Claim7 := { stood := { row := eventLinesUptoRow, standIns := [], harness := (true, "90a7980eeb197929775aa0d6de83ea697b78322aac7f5578975216a2bf92bdb9"), looks := true }, kinds := [], alts := [], laidByText := true, laidKinds := [.data, .data, .data, .data, .sentinel, .sentinel, .widerDeep, .pinned], laidTests := true, laidLooks := .later }
def EventLinesUptoCardSaid : Prop := Claim7.holds Tryd.pinned (.plain (OpenSpec.upto eventLinesSpec)) eventLinesUptoCard
end Rows
end Go.Proofs.YtmpcekpdnikghaaDoor
