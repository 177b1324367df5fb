/-
  DERIVED. GIVEN WITH THE SEED: THE CARDS: each row of YtjplhnnijolpnaaGreatDoorRows.lean that lists a variable, with what it lists TIED to the program's text (the seventh form; the later family's looks); each row that meets fmt, with fmt's text TOLD by the authors' own Lean function (tested against real Go, not proved from fmt's source: count such statements apart). THE CARD IS WHAT COUNTS. Prove the row's statement (the work); the ties are given (YtjplhnnijolpnaaGreatDoorTie.lean); close each card by the builder's one call (the guide's Derived/Test/ToyasCard.lean, 'card_holds'). Laid BY PROGRAM, IN A SANDBOX (cutbox-door.mjs). By AI agents, Wed Nov 11 2026. No macro, syntax, notation, axiom, sorry.
-/
import Derived.Test.YtjplhnnijolpnaaGreatDoorRows
import GoSem.ClaimSeven
namespace Go.Proofs.YtjplhnnijolpnaaGreatDoor
namespace Rows

/-- THE TIED CARD OF 'amanuensislaw6.CollectSkips'. -/
def collectSkipsCard : Claim7 := { stood := { row := collectSkipsRow, standIns := [], harness := (true, "e3bff522a27a42a6a8affee6865f15f5237846a7524c8a7090b935cf3003d42c"), looks := true }, kinds := [], alts := [], laidByText := true, laidKinds := [.data, .data, .data, .handle], laidTests := true, laidLooks := .later }
def CollectSkipsCardSaid : Prop := Claim7.holds Tryz.pinned (.plain (OpenSpec.ofChange collectSkipsSpec)) collectSkipsCard

/-- THE TIED CARD OF 'amanuensislaw6.CollectFragments'. -/
def collectFragmentsCard : Claim7 := { stood := { row := collectFragmentsRow, standIns := [], harness := (true, "e3bff522a27a42a6a8affee6865f15f5237846a7524c8a7090b935cf3003d42c"), looks := true }, kinds := [], alts := [], laidByText := true, laidKinds := [.data, .data, .data, .handle], laidTests := true, laidLooks := .later }
def CollectFragmentsCardSaid : Prop := Claim7.holds Tryz.pinned (.plain (OpenSpec.ofChange collectFragmentsSpec)) collectFragmentsCard

/-- THE TIED CARD OF 'amanuensislaw6.CollectMerges'. -/
def collectMergesCard : Claim7 := { stood := { row := collectMergesRow, standIns := [], harness := (true, "e3bff522a27a42a6a8affee6865f15f5237846a7524c8a7090b935cf3003d42c"), looks := true }, kinds := [], alts := [], laidByText := true, laidKinds := [.data, .data, .data, .handle], laidTests := true, laidLooks := .later }
def CollectMergesCardSaid : Prop := Claim7.holds Tryz.pinned (.plain (OpenSpec.ofChange collectMergesSpec)) collectMergesCard

/-- THE TIED CARD OF 'amanuensislaw5.VarsTypes'. -/
def varsTypesCard : Claim7 := { stood := { row := varsTypesRow, standIns := [], harness := (true, "e3bff522a27a42a6a8affee6865f15f5237846a7524c8a7090b935cf3003d42c"), looks := true }, kinds := [], alts := [], laidByText := true, laidKinds := [.data, .data, .data, .handle], laidTests := true, laidLooks := .later }
def VarsTypesCardSaid : Prop := Claim7.holds Tryz.pinned (.plain (OpenSpec.ofChange varsTypesSpec)) varsTypesCard

/-- THE TIED CARD OF 'amanuensislaw5.VarsMany'. -/
def varsManyCard : Claim7 := { stood := { row := varsManyRow, standIns := [], harness := (true, "e3bff522a27a42a6a8affee6865f15f5237846a7524c8a7090b935cf3003d42c"), looks := true }, kinds := [], alts := [], laidByText := true, laidKinds := [.data, .data, .data, .handle], laidTests := true, laidLooks := .later }
def VarsManyCardSaid : Prop := Claim7.holds Tryz.pinned (.plain (OpenSpec.ofChange varsManySpec)) varsManyCard

/-- THE SECOND FORM's CARD OF 'amanuensislaw6.CollectSkips'. -/
def collectSkipsUptoCard : Claim7 := { stood := { row := collectSkipsUptoRow, standIns := [], harness := (true, "e3bff522a27a42a6a8affee6865f15f5237846a7524c8a7090b935cf3003d42c"), looks := true }, kinds := [], alts := [], laidByText := true, laidKinds := [.data, .data, .data, .handle], laidTests := true, laidLooks := .later }
def CollectSkipsUptoCardSaid : Prop := Claim7.holds Tryz.pinned (.plain (OpenSpec.upto collectSkipsSpec)) collectSkipsUptoCard

/-- THE SECOND FORM's CARD OF 'amanuensislaw6.CollectFragments'. -/
def collectFragmentsUptoCard : Claim7 := { stood := { row := collectFragmentsUptoRow, standIns := [], harness := (true, "e3bff522a27a42a6a8affee6865f15f5237846a7524c8a7090b935cf3003d42c"), looks := true }, kinds := [], alts := [], laidByText := true, laidKinds := [.data, .data, .data, .handle], laidTests := true, laidLooks := .later }
def CollectFragmentsUptoCardSaid : Prop := Claim7.holds Tryz.pinned (.plain (OpenSpec.upto collectFragmentsSpec)) collectFragmentsUptoCard

/-- THE SECOND FORM's CARD OF 'amanuensislaw6.CollectMerges'. -/
def collectMergesUptoCard : Claim7 := { stood := { row := collectMergesUptoRow, standIns := [], harness := (true, "e3bff522a27a42a6a8affee6865f15f5237846a7524c8a7090b935cf3003d42c"), looks := true }, kinds := [], alts := [], laidByText := true, laidKinds := [.data, .data, .data, .handle], laidTests := true, laidLooks := .later }
def CollectMergesUptoCardSaid : Prop := Claim7.holds Tryz.pinned (.plain (OpenSpec.upto collectMergesSpec)) collectMergesUptoCard

/-- THE SECOND FORM's CARD OF 'amanuensislaw5.VarsTypes'. -/
def varsTypesUptoCard : Claim7 := { stood := { row := varsTypesUptoRow, standIns := [], harness := (true, "e3bff522a27a42a6a8affee6865f15f5237846a7524c8a7090b935cf3003d42c"), looks := true }, kinds := [], alts := [], laidByText := true, laidKinds := [.data, .data, .data, .handle], laidTests := true, laidLooks := .later }
def VarsTypesUptoCardSaid : Prop := Claim7.holds Tryz.pinned (.plain (OpenSpec.upto varsTypesSpec)) varsTypesUptoCard

/-- THE SECOND FORM's CARD OF 'amanuensislaw5.VarsMany'. -/
def varsManyUptoCard : Claim7 := { stood := { row := varsManyUptoRow, standIns := [], harness := (true, "e3bff522a27a42a6a8affee6865f15f5237846a7524c8a7090b935cf3003d42c"), looks := true }, kinds := [], alts := [], laidByText := true, laidKinds := [.data, .data, .data, .handle], laidTests := true, laidLooks := .later }
def VarsManyUptoCardSaid : Prop := Claim7.holds Tryz.pinned (.plain (OpenSpec.upto varsManySpec)) varsManyUptoCard
end Rows
end Go.Proofs.YtjplhnnijolpnaaGreatDoor
