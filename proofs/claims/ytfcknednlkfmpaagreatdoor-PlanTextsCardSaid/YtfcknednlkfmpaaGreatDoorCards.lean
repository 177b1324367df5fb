/-
  DERIVED. GIVEN WITH THE SEED: THE CARDS: each row of YtfcknednlkfmpaaGreatDoorRows.lean that lists a variable, with what it lists TIED to the program's text (the seventh form; the later family's looks); each row that meets fmt, with fmt's text TOLD by the authors' own Lean function (tested against real Go, not proved from fmt's source: count such statements apart). THE CARD IS WHAT COUNTS. Prove the row's statement (the work); the ties are given (YtfcknednlkfmpaaGreatDoorTie.lean); close each card by the builder's one call (the guide's Derived/Test/ToyasCard.lean, 'card_holds'). Laid BY PROGRAM, IN A SANDBOX (cutbox-door.mjs). By AI agents, Wed Nov 11 2026. No macro, syntax, notation, axiom, sorry.
-/
import Derived.Test.YtfcknednlkfmpaaGreatDoorRows
import GoSem.ClaimSeven
namespace Go.Proofs.YtfcknednlkfmpaaGreatDoor
namespace Rows

/-- THE TIED CARD OF 'amanuensislaw8.PlanTexts'. -/
def planTextsCard : Claim7 := { stood := { row := planTextsRow, standIns := [], harness := (true, "eec50938c8966fd840bd1645b5d496282e113507b2f99af275e0bd4022288d9e"), looks := true }, kinds := [], alts := [], laidByText := true, laidKinds := [.data, .data, .data, .handle], laidTests := true, laidLooks := .later }
def PlanTextsCardSaid : Prop := Claim7.holds Tryz.pinned (.plain (OpenSpec.ofChange planTextsSpec)) planTextsCard

/-- THE TIED CARD OF 'amanuensislaw8.PlanLimits'. -/
def planLimitsCard : Claim7 := { stood := { row := planLimitsRow, standIns := [], harness := (true, "eec50938c8966fd840bd1645b5d496282e113507b2f99af275e0bd4022288d9e"), looks := true }, kinds := [], alts := [], laidByText := true, laidKinds := [.data, .data, .data, .handle], laidTests := true, laidLooks := .later }
def PlanLimitsCardSaid : Prop := Claim7.holds Tryz.pinned (.plain (OpenSpec.ofChange planLimitsSpec)) planLimitsCard

/-- THE TIED CARD OF 'amanuensislaw17.AnswerLong'. -/
def answerLongCard : Claim7 := { stood := { row := answerLongRow, standIns := [], harness := (true, "eec50938c8966fd840bd1645b5d496282e113507b2f99af275e0bd4022288d9e"), looks := true }, kinds := [], alts := [], laidByText := true, laidKinds := [.data, .data, .data, .handle], laidTests := true, laidLooks := .later }
def AnswerLongCardSaid : Prop := Claim7.holds Tryz.pinned (.plain (OpenSpec.ofChange answerLongSpec)) answerLongCard

/-- THE TIED CARD OF 'amanuensislaw17.AnswerStatus'. -/
def answerStatusCard : Claim7 := { stood := { row := answerStatusRow, standIns := [], harness := (true, "eec50938c8966fd840bd1645b5d496282e113507b2f99af275e0bd4022288d9e"), looks := true }, kinds := [], alts := [], laidByText := true, laidKinds := [.data, .data, .data, .handle], laidTests := true, laidLooks := .later }
def AnswerStatusCardSaid : Prop := Claim7.holds Tryz.pinned (.plain (OpenSpec.ofChange answerStatusSpec)) answerStatusCard

/-- THE SECOND FORM's CARD OF 'amanuensislaw8.PlanTexts'. -/
def planTextsUptoCard : Claim7 := { stood := { row := planTextsUptoRow, standIns := [], harness := (true, "eec50938c8966fd840bd1645b5d496282e113507b2f99af275e0bd4022288d9e"), looks := true }, kinds := [], alts := [], laidByText := true, laidKinds := [.data, .data, .data, .handle], laidTests := true, laidLooks := .later }
def PlanTextsUptoCardSaid : Prop := Claim7.holds Tryz.pinned (.plain (OpenSpec.upto planTextsSpec)) planTextsUptoCard

/-- THE SECOND FORM's CARD OF 'amanuensislaw8.PlanLimits'. -/
def planLimitsUptoCard : Claim7 := { stood := { row := planLimitsUptoRow, standIns := [], harness := (true, "eec50938c8966fd840bd1645b5d496282e113507b2f99af275e0bd4022288d9e"), looks := true }, kinds := [], alts := [], laidByText := true, laidKinds := [.data, .data, .data, .handle], laidTests := true, laidLooks := .later }
def PlanLimitsUptoCardSaid : Prop := Claim7.holds Tryz.pinned (.plain (OpenSpec.upto planLimitsSpec)) planLimitsUptoCard

/-- THE SECOND FORM's CARD OF 'amanuensislaw17.AnswerLong'. -/
def answerLongUptoCard : Claim7 := { stood := { row := answerLongUptoRow, standIns := [], harness := (true, "eec50938c8966fd840bd1645b5d496282e113507b2f99af275e0bd4022288d9e"), looks := true }, kinds := [], alts := [], laidByText := true, laidKinds := [.data, .data, .data, .handle], laidTests := true, laidLooks := .later }
def AnswerLongUptoCardSaid : Prop := Claim7.holds Tryz.pinned (.plain (OpenSpec.upto answerLongSpec)) answerLongUptoCard

/-- THE SECOND FORM's CARD OF 'amanuensislaw17.AnswerStatus'. -/
def answerStatusUptoCard : Claim7 := { stood := { row := answerStatusUptoRow, standIns := [], harness := (true, "eec50938c8966fd840bd1645b5d496282e113507b2f99af275e0bd4022288d9e"), looks := true }, kinds := [], alts := [], laidByText := true, laidKinds := [.data, .data, .data, .handle], laidTests := true, laidLooks := .later }
def AnswerStatusUptoCardSaid : Prop := Claim7.holds Tryz.pinned (.plain (OpenSpec.upto answerStatusSpec)) answerStatusUptoCard
end Rows
end Go.Proofs.YtfcknednlkfmpaaGreatDoor
