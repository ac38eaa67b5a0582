/-
  DERIVED. GIVEN WITH THE SEED: THE CARDS: each row of YtnnkamfpcodnnaaDoorRows.lean that lists a variable, with what it lists TIED to the program's text (the seventh form; the later family's looks); each row that meets fmt, with fmt's text TOLD by the authors' own Lean function (tested against real Go, not proved from fmt's source: count such statements apart). THE CARD IS WHAT COUNTS. Prove the row's statement (the work); the ties are given (YtnnkamfpcodnnaaDoorTie.lean); close each card by the builder's one call (the guide's Derived/Test/ToyasCard.lean, 'card_holds'). Laid BY PROGRAM, IN A SANDBOX (cutbox-door.mjs). By AI agents, Wed Nov 11 2026. No macro, syntax, notation, axiom, sorry.
-/
import Derived.Test.YtnnkamfpcodnnaaDoorRows
import GoSem.ClaimSeven
namespace Go.Proofs.YtnnkamfpcodnnaaDoor
namespace Rows

/-- THE TIED CARD OF 'wakemanlaw38.OpChecks'. -/
def opChecksCard : Claim7 := { stood := { row := opChecksRow, standIns := [], harness := (true, "fc8e30fb40c8c92713d252a4e5edfd97d5a7f50fbbf285fcdcf17dee436fdeed"), looks := true }, kinds := [], alts := [], laidByText := true, laidKinds := [.data, .data, .data, .sentinel, .sentinel], laidTests := true, laidLooks := .later }
def OpChecksCardSaid : Prop := Claim7.holds Tryd.pinned (.plain (OpenSpec.ofChange opChecksSpec)) opChecksCard

/-- THE TIED CARD OF 'wakemanlaw38.OpTexts'. -/
def opTextsCard : Claim7 := { stood := { row := opTextsRow, standIns := [], harness := (true, "fc8e30fb40c8c92713d252a4e5edfd97d5a7f50fbbf285fcdcf17dee436fdeed"), looks := true }, kinds := [], alts := [], laidByText := true, laidKinds := [.data, .data, .data, .sentinel, .sentinel], laidTests := true, laidLooks := .later }
def OpTextsCardSaid : Prop := Claim7.holds Tryd.pinned (.plain (OpenSpec.ofChange opTextsSpec)) opTextsCard

/-- THE TIED CARD OF 'wakemanlaw38.OpBack'. -/
def opBackCard : Claim7 := { stood := { row := opBackRow, standIns := [], harness := (true, "fc8e30fb40c8c92713d252a4e5edfd97d5a7f50fbbf285fcdcf17dee436fdeed"), looks := true }, kinds := [], alts := [], laidByText := true, laidKinds := [.data, .data, .data, .sentinel, .sentinel], laidTests := true, laidLooks := .later }
def OpBackCardSaid : Prop := Claim7.holds Tryd.pinned (.plain (OpenSpec.ofChange opBackSpec)) opBackCard

/-- THE TIED CARD OF 'wakemanlaw38.OpNormal'. -/
def opNormalCard : Claim7 := { stood := { row := opNormalRow, standIns := [], harness := (true, "fc8e30fb40c8c92713d252a4e5edfd97d5a7f50fbbf285fcdcf17dee436fdeed"), looks := true }, kinds := [], alts := [], laidByText := true, laidKinds := [.data, .data, .data, .sentinel, .sentinel], laidTests := true, laidLooks := .later }
def OpNormalCardSaid : Prop := Claim7.holds Tryd.pinned (.plain (OpenSpec.ofChange opNormalSpec)) opNormalCard

/-- THE TIED CARD OF 'wakemanlaw38.OpFields'. -/
def opFieldsCard : Claim7 := { stood := { row := opFieldsRow, standIns := [], harness := (true, "fc8e30fb40c8c92713d252a4e5edfd97d5a7f50fbbf285fcdcf17dee436fdeed"), looks := true }, kinds := [], alts := [], laidByText := true, laidKinds := [.data, .data, .data, .sentinel, .sentinel], laidTests := true, laidLooks := .later }
def OpFieldsCardSaid : Prop := Claim7.holds Tryd.pinned (.plain (OpenSpec.ofChange opFieldsSpec)) opFieldsCard

/-- THE TIED CARD OF 'wakemanlaw38.OpSums'. -/
def opSumsCard : Claim7 := { stood := { row := opSumsRow, standIns := [], harness := (true, "fc8e30fb40c8c92713d252a4e5edfd97d5a7f50fbbf285fcdcf17dee436fdeed"), looks := true }, kinds := [], alts := [], laidByText := true, laidKinds := [.data, .data, .data, .sentinel, .sentinel], laidTests := true, laidLooks := .later }
def OpSumsCardSaid : Prop := Claim7.holds Tryd.pinned (.plain (OpenSpec.ofChange opSumsSpec)) opSumsCard

/-- THE TIED CARD OF 'wakemanlaw38.OpAll'. -/
def opAllCard : Claim7 := { stood := { row := opAllRow, standIns := [], harness := (true, "fc8e30fb40c8c92713d252a4e5edfd97d5a7f50fbbf285fcdcf17dee436fdeed"), looks := true }, kinds := [], alts := [], laidByText := true, laidKinds := [.data, .data, .data, .sentinel, .sentinel], laidTests := true, laidLooks := .later }
def OpAllCardSaid : Prop := Claim7.holds Tryd.pinned (.plain (OpenSpec.ofChange opAllSpec)) opAllCard

/-- THE TIED CARD OF 'wakemanlaw38.OpLines'. -/
def opLinesCard : Claim7 := { stood := { row := opLinesRow, standIns := [], harness := (true, "fc8e30fb40c8c92713d252a4e5edfd97d5a7f50fbbf285fcdcf17dee436fdeed"), looks := true }, kinds := [], alts := [], laidByText := true, laidKinds := [.data, .data, .data, .sentinel, .sentinel], laidTests := true, laidLooks := .later }
def OpLinesCardSaid : Prop := Claim7.holds Tryd.pinned (.plain (OpenSpec.ofChange opLinesSpec)) opLinesCard

/-- THE SECOND FORM's CARD OF 'wakemanlaw38.OpChecks'. -/
def opChecksUptoCard : Claim7 := { stood := { row := opChecksUptoRow, standIns := [], harness := (true, "fc8e30fb40c8c92713d252a4e5edfd97d5a7f50fbbf285fcdcf17dee436fdeed"), looks := true }, kinds := [], alts := [], laidByText := true, laidKinds := [.data, .data, .data, .sentinel, .sentinel], laidTests := true, laidLooks := .later }
def OpChecksUptoCardSaid : Prop := Claim7.holds Tryd.pinned (.plain (OpenSpec.upto opChecksSpec)) opChecksUptoCard

/-- THE SECOND FORM's CARD OF 'wakemanlaw38.OpTexts'. -/
def opTextsUptoCard : Claim7 := { stood := { row := opTextsUptoRow, standIns := [], harness := (true, "fc8e30fb40c8c92713d252a4e5edfd97d5a7f50fbbf285fcdcf17dee436fdeed"), looks := true }, kinds := [], alts := [], laidByText := true, laidKinds := [.data, .data, .data, .sentinel, .sentinel], laidTests := true, laidLooks := .later }
def OpTextsUptoCardSaid : Prop := Claim7.holds Tryd.pinned (.plain (OpenSpec.upto opTextsSpec)) opTextsUptoCard

/-- THE SECOND FORM's CARD OF 'wakemanlaw38.OpBack'. -/
def opBackUptoCard : Claim7 := { stood := { row := opBackUptoRow, standIns := [], harness := (true, "fc8e30fb40c8c92713d252a4e5edfd97d5a7f50fbbf285fcdcf17dee436fdeed"), looks := true }, kinds := [], alts := [], laidByText := true, laidKinds := [.data, .data, .data, .sentinel, .sentinel], laidTests := true, laidLooks := .later }
def OpBackUptoCardSaid : Prop := Claim7.holds Tryd.pinned (.plain (OpenSpec.upto opBackSpec)) opBackUptoCard

/-- THE SECOND FORM's CARD OF 'wakemanlaw38.OpNormal'. -/
def opNormalUptoCard : Claim7 := { stood := { row := opNormalUptoRow, standIns := [], harness := (true, "fc8e30fb40c8c92713d252a4e5edfd97d5a7f50fbbf285fcdcf17dee436fdeed"), looks := true }, kinds := [], alts := [], laidByText := true, laidKinds := [.data, .data, .data, .sentinel, .sentinel], laidTests := true, laidLooks := .later }
def OpNormalUptoCardSaid : Prop := Claim7.holds Tryd.pinned (.plain (OpenSpec.upto opNormalSpec)) opNormalUptoCard

/-- THE SECOND FORM's CARD OF 'wakemanlaw38.OpFields'. -/
def opFieldsUptoCard : Claim7 := { stood := { row := opFieldsUptoRow, standIns := [], harness := (true, "fc8e30fb40c8c92713d252a4e5edfd97d5a7f50fbbf285fcdcf17dee436fdeed"), looks := true }, kinds := [], alts := [], laidByText := true, laidKinds := [.data, .data, .data, .sentinel, .sentinel], laidTests := true, laidLooks := .later }
def OpFieldsUptoCardSaid : Prop := Claim7.holds Tryd.pinned (.plain (OpenSpec.upto opFieldsSpec)) opFieldsUptoCard

/-- THE SECOND FORM's CARD OF 'wakemanlaw38.OpSums'. -/
def opSumsUptoCard : Claim7 := { stood := { row := opSumsUptoRow, standIns := [], harness := (true, "fc8e30fb40c8c92713d252a4e5edfd97d5a7f50fbbf285fcdcf17dee436fdeed"), looks := true }, kinds := [], alts := [], laidByText := true, laidKinds := [.data, .data, .data, .sentinel, .sentinel], laidTests := true, laidLooks := .later }
def OpSumsUptoCardSaid : Prop := Claim7.holds Tryd.pinned (.plain (OpenSpec.upto opSumsSpec)) opSumsUptoCard

/-- THE SECOND FORM's CARD OF 'wakemanlaw38.OpAll'. -/
def opAllUptoCard : Claim7 := { stood := { row := opAllUptoRow, standIns := [], harness := (true, "fc8e30fb40c8c92713d252a4e5edfd97d5a7f50fbbf285fcdcf17dee436fdeed"), looks := true }, kinds := [], alts := [], laidByText := true, laidKinds := [.data, .data, .data, .sentinel, .sentinel], laidTests := true, laidLooks := .later }
def OpAllUptoCardSaid : Prop := Claim7.holds Tryd.pinned (.plain (OpenSpec.upto opAllSpec)) opAllUptoCard

/-- THE SECOND FORM's CARD OF 'wakemanlaw38.OpLines'. -/
def opLinesUptoCard : Claim7 := { stood := { row := opLinesUptoRow, standIns := [], harness := (true, "fc8e30fb40c8c92713d252a4e5edfd97d5a7f50fbbf285fcdcf17dee436fdeed"), looks := true }, kinds := [], alts := [], laidByText := true, laidKinds := [.data, .data, .data, .sentinel, .sentinel], laidTests := true, laidLooks := .later }
def OpLinesUptoCardSaid : Prop := Claim7.holds Tryd.pinned (.plain (OpenSpec.upto opLinesSpec)) opLinesUptoCard
end Rows
end Go.Proofs.YtnnkamfpcodnnaaDoor
