/-
  DERIVED. GIVEN WITH THE SEED: THE CARDS: each row of YtffgfnaomhjgmaaGreatDoorRows.lean that lists a variable, with what it lists TIED to the program's text (the seventh form; the later family's looks); each row that meets fmt, with fmt's text TOLD by the authors' own Lean function (tested against real Go, not proved from fmt's source: count such statements apart). THE CARD IS WHAT COUNTS. Prove the row's statement (the work); the ties are given (YtffgfnaomhjgmaaGreatDoorTie.lean); close each card by the builder's one call (the guide's Derived/Test/ToyasCard.lean, 'card_holds'). Laid BY PROGRAM, IN A SANDBOX (cutbox-door.mjs). By AI agents, Wed Nov 11 2026. No macro, syntax, notation, axiom, sorry.
-/
import Derived.Test.YtffgfnaomhjgmaaGreatDoorRows
import GoSem.ClaimSeven
namespace Go.Proofs.YtffgfnaomhjgmaaGreatDoor
namespace Rows

/-- THE TIED CARD OF 'amanuensislaw7.RulesNames'. -/
def rulesNamesCard : Claim7 := { stood := { row := rulesNamesRow, standIns := [], harness := (true, "17705ac0a6bea92afe78cad7f66166e348a57ee3b9c49d3dcb5626fe8ef7308e"), looks := true }, kinds := [], alts := [], laidByText := true, laidKinds := [.data, .data, .data, .handle], laidTests := true, laidLooks := .later }
def RulesNamesCardSaid : Prop := Claim7.holds Tryz.pinned (.plain (OpenSpec.ofChange rulesNamesSpec)) rulesNamesCard

/-- THE TIED CARD OF 'amanuensislaw7.RulesArguments'. -/
def rulesArgumentsCard : Claim7 := { stood := { row := rulesArgumentsRow, standIns := [], harness := (true, "17705ac0a6bea92afe78cad7f66166e348a57ee3b9c49d3dcb5626fe8ef7308e"), looks := true }, kinds := [], alts := [], laidByText := true, laidKinds := [.data, .data, .data, .handle], laidTests := true, laidLooks := .later }
def RulesArgumentsCardSaid : Prop := Claim7.holds Tryz.pinned (.plain (OpenSpec.ofChange rulesArgumentsSpec)) rulesArgumentsCard

/-- THE TIED CARD OF 'amanuensislaw7.RulesFragments'. -/
def rulesFragmentsCard : Claim7 := { stood := { row := rulesFragmentsRow, standIns := [], harness := (true, "17705ac0a6bea92afe78cad7f66166e348a57ee3b9c49d3dcb5626fe8ef7308e"), looks := true }, kinds := [], alts := [], laidByText := true, laidKinds := [.data, .data, .data, .handle], laidTests := true, laidLooks := .later }
def RulesFragmentsCardSaid : Prop := Claim7.holds Tryz.pinned (.plain (OpenSpec.ofChange rulesFragmentsSpec)) rulesFragmentsCard

/-- THE TIED CARD OF 'amanuensislaw7.RulesVariables'. -/
def rulesVariablesCard : Claim7 := { stood := { row := rulesVariablesRow, standIns := [], harness := (true, "17705ac0a6bea92afe78cad7f66166e348a57ee3b9c49d3dcb5626fe8ef7308e"), looks := true }, kinds := [], alts := [], laidByText := true, laidKinds := [.data, .data, .data, .handle], laidTests := true, laidLooks := .later }
def RulesVariablesCardSaid : Prop := Claim7.holds Tryz.pinned (.plain (OpenSpec.ofChange rulesVariablesSpec)) rulesVariablesCard

/-- THE TIED CARD OF 'amanuensislaw7.RulesDirectives'. -/
def rulesDirectivesCard : Claim7 := { stood := { row := rulesDirectivesRow, standIns := [], harness := (true, "17705ac0a6bea92afe78cad7f66166e348a57ee3b9c49d3dcb5626fe8ef7308e"), looks := true }, kinds := [], alts := [], laidByText := true, laidKinds := [.data, .data, .data, .handle], laidTests := true, laidLooks := .later }
def RulesDirectivesCardSaid : Prop := Claim7.holds Tryz.pinned (.plain (OpenSpec.ofChange rulesDirectivesSpec)) rulesDirectivesCard

/-- THE TIED CARD OF 'amanuensislaw7.RulesSelections'. -/
def rulesSelectionsCard : Claim7 := { stood := { row := rulesSelectionsRow, standIns := [], harness := (true, "17705ac0a6bea92afe78cad7f66166e348a57ee3b9c49d3dcb5626fe8ef7308e"), looks := true }, kinds := [], alts := [], laidByText := true, laidKinds := [.data, .data, .data, .handle], laidTests := true, laidLooks := .later }
def RulesSelectionsCardSaid : Prop := Claim7.holds Tryz.pinned (.plain (OpenSpec.ofChange rulesSelectionsSpec)) rulesSelectionsCard

/-- THE SECOND FORM's CARD OF 'amanuensislaw7.RulesNames'. -/
def rulesNamesUptoCard : Claim7 := { stood := { row := rulesNamesUptoRow, standIns := [], harness := (true, "17705ac0a6bea92afe78cad7f66166e348a57ee3b9c49d3dcb5626fe8ef7308e"), looks := true }, kinds := [], alts := [], laidByText := true, laidKinds := [.data, .data, .data, .handle], laidTests := true, laidLooks := .later }
def RulesNamesUptoCardSaid : Prop := Claim7.holds Tryz.pinned (.plain (OpenSpec.upto rulesNamesSpec)) rulesNamesUptoCard

/-- THE SECOND FORM's CARD OF 'amanuensislaw7.RulesArguments'. -/
def rulesArgumentsUptoCard : Claim7 := { stood := { row := rulesArgumentsUptoRow, standIns := [], harness := (true, "17705ac0a6bea92afe78cad7f66166e348a57ee3b9c49d3dcb5626fe8ef7308e"), looks := true }, kinds := [], alts := [], laidByText := true, laidKinds := [.data, .data, .data, .handle], laidTests := true, laidLooks := .later }
def RulesArgumentsUptoCardSaid : Prop := Claim7.holds Tryz.pinned (.plain (OpenSpec.upto rulesArgumentsSpec)) rulesArgumentsUptoCard

/-- THE SECOND FORM's CARD OF 'amanuensislaw7.RulesFragments'. -/
def rulesFragmentsUptoCard : Claim7 := { stood := { row := rulesFragmentsUptoRow, standIns := [], harness := (true, "17705ac0a6bea92afe78cad7f66166e348a57ee3b9c49d3dcb5626fe8ef7308e"), looks := true }, kinds := [], alts := [], laidByText := true, laidKinds := [.data, .data, .data, .handle], laidTests := true, laidLooks := .later }
def RulesFragmentsUptoCardSaid : Prop := Claim7.holds Tryz.pinned (.plain (OpenSpec.upto rulesFragmentsSpec)) rulesFragmentsUptoCard

/-- THE SECOND FORM's CARD OF 'amanuensislaw7.RulesVariables'. -/
def rulesVariablesUptoCard : Claim7 := { stood := { row := rulesVariablesUptoRow, standIns := [], harness := (true, "17705ac0a6bea92afe78cad7f66166e348a57ee3b9c49d3dcb5626fe8ef7308e"), looks := true }, kinds := [], alts := [], laidByText := true, laidKinds := [.data, .data, .data, .handle], laidTests := true, laidLooks := .later }
def RulesVariablesUptoCardSaid : Prop := Claim7.holds Tryz.pinned (.plain (OpenSpec.upto rulesVariablesSpec)) rulesVariablesUptoCard

/-- THE SECOND FORM's CARD OF 'amanuensislaw7.RulesDirectives'. -/
def rulesDirectivesUptoCard : Claim7 := { stood := { row := rulesDirectivesUptoRow, standIns := [], harness := (true, "17705ac0a6bea92afe78cad7f66166e348a57ee3b9c49d3dcb5626fe8ef7308e"), looks := true }, kinds := [], alts := [], laidByText := true, laidKinds := [.data, .data, .data, .handle], laidTests := true, laidLooks := .later }
def RulesDirectivesUptoCardSaid : Prop := Claim7.holds Tryz.pinned (.plain (OpenSpec.upto rulesDirectivesSpec)) rulesDirectivesUptoCard

/-- THE SECOND FORM's CARD OF 'amanuensislaw7.RulesSelections'. -/
def rulesSelectionsUptoCard : Claim7 := { stood := { row := rulesSelectionsUptoRow, standIns := [], harness := (true, "17705ac0a6bea92afe78cad7f66166e348a57ee3b9c49d3dcb5626fe8ef7308e"), looks := true }, kinds := [], alts := [], laidByText := true, laidKinds := [.data, .data, .data, .handle], laidTests := true, laidLooks := .later }
def RulesSelectionsUptoCardSaid : Prop := Claim7.holds Tryz.pinned (.plain (OpenSpec.upto rulesSelectionsSpec)) rulesSelectionsUptoCard
end Rows
end Go.Proofs.YtffgfnaomhjgmaaGreatDoor
