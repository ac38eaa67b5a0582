/-
  DERIVED. GIVEN WITH THE SEED: THE CARDS: each row of YtdpjcbijddgpgaaGreatDoorRows.lean that lists a variable, with what it lists TIED to the program's text (the seventh form; the later family's looks); each row that meets fmt, with fmt's text TOLD by the authors' own Lean function (tested against real Go, not proved from fmt's source: count such statements apart). THE CARD IS WHAT COUNTS. Prove the row's statement (the work); the ties are given (YtdpjcbijddgpgaaGreatDoorTie.lean); close each card by the builder's one call (the guide's Derived/Test/ToyasCard.lean, 'card_holds'). Laid BY PROGRAM, IN A SANDBOX (cutbox-door.mjs). By AI agents, Wed Nov 11 2026. No macro, syntax, notation, axiom, sorry.
-/
import Derived.Test.YtdpjcbijddgpgaaGreatDoorRows
import GoSem.ClaimSeven
namespace Go.Proofs.YtdpjcbijddgpgaaGreatDoor
namespace Rows

/-- THE TIED CARD OF 'wakemanlaw14.PolicySets'. -/
def policySetsCard : Claim7 := { stood := { row := policySetsRow, standIns := [], harness := (true, "83d43074c217f06ac784960ccc50a0c80e433b00d0c0f96757f6d90175729964"), looks := true }, kinds := [], alts := [], laidByText := true, laidKinds := [.data, .data, .data, .data, .sentinel, .sentinel, .widerDeep, .pinned], laidTests := true, laidLooks := .later }
def PolicySetsCardSaid : Prop := Claim7.holds Tryz.pinned (.plain (OpenSpec.ofChange policySetsSpec)) policySetsCard

/-- THE TIED CARD OF 'wakemanlaw14.PolicyParses'. -/
def policyParsesCard : Claim7 := { stood := { row := policyParsesRow, standIns := [], harness := (true, "83d43074c217f06ac784960ccc50a0c80e433b00d0c0f96757f6d90175729964"), looks := true }, kinds := [], alts := [], laidByText := true, laidKinds := [.data, .data, .data, .data, .sentinel, .sentinel, .widerDeep, .pinned], laidTests := true, laidLooks := .later }
def PolicyParsesCardSaid : Prop := Claim7.holds Tryz.pinned (.plain (OpenSpec.ofChange policyParsesSpec)) policyParsesCard

/-- THE TIED CARD OF 'wakemanlaw14.PolicyBack'. -/
def policyBackCard : Claim7 := { stood := { row := policyBackRow, standIns := [], harness := (true, "83d43074c217f06ac784960ccc50a0c80e433b00d0c0f96757f6d90175729964"), looks := true }, kinds := [], alts := [], laidByText := true, laidKinds := [.data, .data, .data, .data, .sentinel, .sentinel, .widerDeep, .pinned], laidTests := true, laidLooks := .later }
def PolicyBackCardSaid : Prop := Claim7.holds Tryz.pinned (.plain (OpenSpec.ofChange policyBackSpec)) policyBackCard

/-- THE TIED CARD OF 'wakemanlaw14.PolicyReads'. -/
def policyReadsCard : Claim7 := { stood := { row := policyReadsRow, standIns := [], harness := (true, "83d43074c217f06ac784960ccc50a0c80e433b00d0c0f96757f6d90175729964"), looks := true }, kinds := [], alts := [], laidByText := true, laidKinds := [.data, .data, .data, .data, .sentinel, .sentinel, .widerDeep, .pinned], laidTests := true, laidLooks := .later }
def PolicyReadsCardSaid : Prop := Claim7.holds Tryz.pinned (.plain (OpenSpec.ofChange policyReadsSpec)) policyReadsCard

/-- THE TIED CARD OF 'wakemanlaw14.PolicySpans'. -/
def policySpansCard : Claim7 := { stood := { row := policySpansRow, standIns := [], harness := (true, "83d43074c217f06ac784960ccc50a0c80e433b00d0c0f96757f6d90175729964"), looks := true }, kinds := [], alts := [], laidByText := true, laidKinds := [.data, .data, .data, .data, .sentinel, .sentinel, .widerDeep, .pinned], laidTests := true, laidLooks := .later }
def PolicySpansCardSaid : Prop := Claim7.holds Tryz.pinned (.plain (OpenSpec.ofChange policySpansSpec)) policySpansCard

/-- THE TIED CARD OF 'wakemanlaw14.PolicyChecks'. -/
def policyChecksCard : Claim7 := { stood := { row := policyChecksRow, standIns := [], harness := (true, "83d43074c217f06ac784960ccc50a0c80e433b00d0c0f96757f6d90175729964"), looks := true }, kinds := [], alts := [], laidByText := true, laidKinds := [.data, .data, .data, .data, .sentinel, .sentinel, .widerDeep, .pinned], laidTests := true, laidLooks := .later }
def PolicyChecksCardSaid : Prop := Claim7.holds Tryz.pinned (.plain (OpenSpec.ofChange policyChecksSpec)) policyChecksCard

/-- THE TIED CARD OF 'wakemanlaw14.PolicyValues'. -/
def policyValuesCard : Claim7 := { stood := { row := policyValuesRow, standIns := [], harness := (true, "83d43074c217f06ac784960ccc50a0c80e433b00d0c0f96757f6d90175729964"), looks := true }, kinds := [], alts := [], laidByText := true, laidKinds := [.data, .data, .data, .data, .sentinel, .sentinel, .widerDeep, .pinned], laidTests := true, laidLooks := .later }
def PolicyValuesCardSaid : Prop := Claim7.holds Tryz.pinned (.plain (OpenSpec.ofChange policyValuesSpec)) policyValuesCard

/-- THE TIED CARD OF 'wakemanlaw14.PolicyRules'. -/
def policyRulesCard : Claim7 := { stood := { row := policyRulesRow, standIns := [], harness := (true, "83d43074c217f06ac784960ccc50a0c80e433b00d0c0f96757f6d90175729964"), looks := true }, kinds := [], alts := [], laidByText := true, laidKinds := [.data, .data, .data, .data, .sentinel, .sentinel, .widerDeep, .pinned], laidTests := true, laidLooks := .later }
def PolicyRulesCardSaid : Prop := Claim7.holds Tryz.pinned (.plain (OpenSpec.ofChange policyRulesSpec)) policyRulesCard

/-- THE TIED CARD OF 'wakemanlaw14.PolicySetsAll'. -/
def policySetsAllCard : Claim7 := { stood := { row := policySetsAllRow, standIns := [], harness := (true, "83d43074c217f06ac784960ccc50a0c80e433b00d0c0f96757f6d90175729964"), looks := true }, kinds := [], alts := [], laidByText := true, laidKinds := [.data, .data, .data, .data, .sentinel, .sentinel, .widerDeep, .pinned], laidTests := true, laidLooks := .later }
def PolicySetsAllCardSaid : Prop := Claim7.holds Tryz.pinned (.plain (OpenSpec.ofChange policySetsAllSpec)) policySetsAllCard

/-- THE TIED CARD OF 'wakemanlaw14.PolicyOrder'. -/
def policyOrderCard : Claim7 := { stood := { row := policyOrderRow, standIns := [], harness := (true, "83d43074c217f06ac784960ccc50a0c80e433b00d0c0f96757f6d90175729964"), looks := true }, kinds := [], alts := [], laidByText := true, laidKinds := [.data, .data, .data, .data, .sentinel, .sentinel, .widerDeep, .pinned], laidTests := true, laidLooks := .later }
def PolicyOrderCardSaid : Prop := Claim7.holds Tryz.pinned (.plain (OpenSpec.ofChange policyOrderSpec)) policyOrderCard

/-- THE SECOND FORM's CARD OF 'wakemanlaw14.PolicySets'. -/
def policySetsUptoCard : Claim7 := { stood := { row := policySetsUptoRow, standIns := [], harness := (true, "83d43074c217f06ac784960ccc50a0c80e433b00d0c0f96757f6d90175729964"), looks := true }, kinds := [], alts := [], laidByText := true, laidKinds := [.data, .data, .data, .data, .sentinel, .sentinel, .widerDeep, .pinned], laidTests := true, laidLooks := .later }
def PolicySetsUptoCardSaid : Prop := Claim7.holds Tryz.pinned (.plain (OpenSpec.upto policySetsSpec)) policySetsUptoCard

/-- THE SECOND FORM's CARD OF 'wakemanlaw14.PolicyParses'. -/
def policyParsesUptoCard : Claim7 := { stood := { row := policyParsesUptoRow, standIns := [], harness := (true, "83d43074c217f06ac784960ccc50a0c80e433b00d0c0f96757f6d90175729964"), looks := true }, kinds := [], alts := [], laidByText := true, laidKinds := [.data, .data, .data, .data, .sentinel, .sentinel, .widerDeep, .pinned], laidTests := true, laidLooks := .later }
def PolicyParsesUptoCardSaid : Prop := Claim7.holds Tryz.pinned (.plain (OpenSpec.upto policyParsesSpec)) policyParsesUptoCard

/-- THE SECOND FORM's CARD OF 'wakemanlaw14.PolicyBack'. -/
def policyBackUptoCard : Claim7 := { stood := { row := policyBackUptoRow, standIns := [], harness := (true, "83d43074c217f06ac784960ccc50a0c80e433b00d0c0f96757f6d90175729964"), looks := true }, kinds := [], alts := [], laidByText := true, laidKinds := [.data, .data, .data, .data, .sentinel, .sentinel, .widerDeep, .pinned], laidTests := true, laidLooks := .later }
def PolicyBackUptoCardSaid : Prop := Claim7.holds Tryz.pinned (.plain (OpenSpec.upto policyBackSpec)) policyBackUptoCard

/-- THE SECOND FORM's CARD OF 'wakemanlaw14.PolicyReads'. -/
def policyReadsUptoCard : Claim7 := { stood := { row := policyReadsUptoRow, standIns := [], harness := (true, "83d43074c217f06ac784960ccc50a0c80e433b00d0c0f96757f6d90175729964"), looks := true }, kinds := [], alts := [], laidByText := true, laidKinds := [.data, .data, .data, .data, .sentinel, .sentinel, .widerDeep, .pinned], laidTests := true, laidLooks := .later }
def PolicyReadsUptoCardSaid : Prop := Claim7.holds Tryz.pinned (.plain (OpenSpec.upto policyReadsSpec)) policyReadsUptoCard

/-- THE SECOND FORM's CARD OF 'wakemanlaw14.PolicySpans'. -/
def policySpansUptoCard : Claim7 := { stood := { row := policySpansUptoRow, standIns := [], harness := (true, "83d43074c217f06ac784960ccc50a0c80e433b00d0c0f96757f6d90175729964"), looks := true }, kinds := [], alts := [], laidByText := true, laidKinds := [.data, .data, .data, .data, .sentinel, .sentinel, .widerDeep, .pinned], laidTests := true, laidLooks := .later }
def PolicySpansUptoCardSaid : Prop := Claim7.holds Tryz.pinned (.plain (OpenSpec.upto policySpansSpec)) policySpansUptoCard

/-- THE SECOND FORM's CARD OF 'wakemanlaw14.PolicyChecks'. -/
def policyChecksUptoCard : Claim7 := { stood := { row := policyChecksUptoRow, standIns := [], harness := (true, "83d43074c217f06ac784960ccc50a0c80e433b00d0c0f96757f6d90175729964"), looks := true }, kinds := [], alts := [], laidByText := true, laidKinds := [.data, .data, .data, .data, .sentinel, .sentinel, .widerDeep, .pinned], laidTests := true, laidLooks := .later }
def PolicyChecksUptoCardSaid : Prop := Claim7.holds Tryz.pinned (.plain (OpenSpec.upto policyChecksSpec)) policyChecksUptoCard

/-- THE SECOND FORM's CARD OF 'wakemanlaw14.PolicyValues'. -/
def policyValuesUptoCard : Claim7 := { stood := { row := policyValuesUptoRow, standIns := [], harness := (true, "83d43074c217f06ac784960ccc50a0c80e433b00d0c0f96757f6d90175729964"), looks := true }, kinds := [], alts := [], laidByText := true, laidKinds := [.data, .data, .data, .data, .sentinel, .sentinel, .widerDeep, .pinned], laidTests := true, laidLooks := .later }
def PolicyValuesUptoCardSaid : Prop := Claim7.holds Tryz.pinned (.plain (OpenSpec.upto policyValuesSpec)) policyValuesUptoCard

/-- THE SECOND FORM's CARD OF 'wakemanlaw14.PolicyRules'. -/
def policyRulesUptoCard : Claim7 := { stood := { row := policyRulesUptoRow, standIns := [], harness := (true, "83d43074c217f06ac784960ccc50a0c80e433b00d0c0f96757f6d90175729964"), looks := true }, kinds := [], alts := [], laidByText := true, laidKinds := [.data, .data, .data, .data, .sentinel, .sentinel, .widerDeep, .pinned], laidTests := true, laidLooks := .later }
def PolicyRulesUptoCardSaid : Prop := Claim7.holds Tryz.pinned (.plain (OpenSpec.upto policyRulesSpec)) policyRulesUptoCard

/-- THE SECOND FORM's CARD OF 'wakemanlaw14.PolicySetsAll'. -/
def policySetsAllUptoCard : Claim7 := { stood := { row := policySetsAllUptoRow, standIns := [], harness := (true, "83d43074c217f06ac784960ccc50a0c80e433b00d0c0f96757f6d90175729964"), looks := true }, kinds := [], alts := [], laidByText := true, laidKinds := [.data, .data, .data, .data, .sentinel, .sentinel, .widerDeep, .pinned], laidTests := true, laidLooks := .later }
def PolicySetsAllUptoCardSaid : Prop := Claim7.holds Tryz.pinned (.plain (OpenSpec.upto policySetsAllSpec)) policySetsAllUptoCard

/-- THE SECOND FORM's CARD OF 'wakemanlaw14.PolicyOrder'. -/
def policyOrderUptoCard : Claim7 := { stood := { row := policyOrderUptoRow, standIns := [], harness := (true, "83d43074c217f06ac784960ccc50a0c80e433b00d0c0f96757f6d90175729964"), looks := true }, kinds := [], alts := [], laidByText := true, laidKinds := [.data, .data, .data, .data, .sentinel, .sentinel, .widerDeep, .pinned], laidTests := true, laidLooks := .later }
def PolicyOrderUptoCardSaid : Prop := Claim7.holds Tryz.pinned (.plain (OpenSpec.upto policyOrderSpec)) policyOrderUptoCard
end Rows
end Go.Proofs.YtdpjcbijddgpgaaGreatDoor
