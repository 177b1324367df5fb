/-
  DERIVED. GIVEN WITH THE SEED: THE CARDS: each row of YtbabneakocnnoaaGreatDoorRows.lean that lists a variable, with what it lists TIED to the program's text (the seventh form; the later family's looks); each row that meets fmt, with fmt's text TOLD by the authors' own Lean function (tested against real Go, not proved from fmt's source: count such statements apart). THE CARD IS WHAT COUNTS. Prove the row's statement (the work); the ties are given (YtbabneakocnnoaaGreatDoorTie.lean); close each card by the builder's one call (the guide's Derived/Test/ToyasCard.lean, 'card_holds'). Laid BY PROGRAM, IN A SANDBOX (cutbox-door.mjs). By AI agents, Wed Nov 11 2026. No macro, syntax, notation, axiom, sorry.
-/
import Derived.Test.YtbabneakocnnoaaGreatDoorRows
import GoSem.ClaimSeven
namespace Go.Proofs.YtbabneakocnnoaaGreatDoor
namespace Rows

/-- THE TIED CARD OF 'amanuensislaw3.DocErrors'. -/
def docErrorsCard : Claim7 := { stood := { row := docErrorsRow, standIns := [], harness := (true, "fb9bc430a8c3d1ec3cf5c583afd2f6f433d50b6defc10efd5610a60ea74336c1"), looks := true }, kinds := [], alts := [], laidByText := true, laidKinds := [.data, .data, .data, .handle], laidTests := true, laidLooks := .later }
def DocErrorsCardSaid : Prop := Claim7.holds Tryz.pinned (.plain (OpenSpec.ofChange docErrorsSpec)) docErrorsCard

/-- THE TIED CARD OF 'amanuensislaw3.DocLimits'. -/
def docLimitsCard : Claim7 := { stood := { row := docLimitsRow, standIns := [], harness := (true, "fb9bc430a8c3d1ec3cf5c583afd2f6f433d50b6defc10efd5610a60ea74336c1"), looks := true }, kinds := [], alts := [], laidByText := true, laidKinds := [.data, .data, .data, .handle], laidTests := true, laidLooks := .later }
def DocLimitsCardSaid : Prop := Claim7.holds Tryz.pinned (.plain (OpenSpec.ofChange docLimitsSpec)) docLimitsCard

/-- THE TIED CARD OF 'amanuensislaw18.WireForms'. -/
def wireFormsCard : Claim7 := { stood := { row := wireFormsRow, standIns := [], harness := (true, "fb9bc430a8c3d1ec3cf5c583afd2f6f433d50b6defc10efd5610a60ea74336c1"), looks := true }, kinds := [], alts := [], laidByText := true, laidKinds := [.data, .data, .data], laidTests := true, laidLooks := .later }
def WireFormsCardSaid : Prop := Claim7.holds Tryz.pinned (.plain (OpenSpec.ofChange wireFormsSpec)) wireFormsCard

/-- THE TIED CARD OF 'amanuensislaw18.WireLong'. -/
def wireLongCard : Claim7 := { stood := { row := wireLongRow, standIns := [], harness := (true, "fb9bc430a8c3d1ec3cf5c583afd2f6f433d50b6defc10efd5610a60ea74336c1"), looks := true }, kinds := [], alts := [], laidByText := true, laidKinds := [.data, .data, .data], laidTests := true, laidLooks := .later }
def WireLongCardSaid : Prop := Claim7.holds Tryz.pinned (.plain (OpenSpec.ofChange wireLongSpec)) wireLongCard

/-- THE SECOND FORM's CARD OF 'amanuensislaw3.DocErrors'. -/
def docErrorsUptoCard : Claim7 := { stood := { row := docErrorsUptoRow, standIns := [], harness := (true, "fb9bc430a8c3d1ec3cf5c583afd2f6f433d50b6defc10efd5610a60ea74336c1"), looks := true }, kinds := [], alts := [], laidByText := true, laidKinds := [.data, .data, .data, .handle], laidTests := true, laidLooks := .later }
def DocErrorsUptoCardSaid : Prop := Claim7.holds Tryz.pinned (.plain (OpenSpec.upto docErrorsSpec)) docErrorsUptoCard

/-- THE SECOND FORM's CARD OF 'amanuensislaw3.DocLimits'. -/
def docLimitsUptoCard : Claim7 := { stood := { row := docLimitsUptoRow, standIns := [], harness := (true, "fb9bc430a8c3d1ec3cf5c583afd2f6f433d50b6defc10efd5610a60ea74336c1"), looks := true }, kinds := [], alts := [], laidByText := true, laidKinds := [.data, .data, .data, .handle], laidTests := true, laidLooks := .later }
def DocLimitsUptoCardSaid : Prop := Claim7.holds Tryz.pinned (.plain (OpenSpec.upto docLimitsSpec)) docLimitsUptoCard

/-- THE SECOND FORM's CARD OF 'amanuensislaw18.WireForms'. -/
def wireFormsUptoCard : Claim7 := { stood := { row := wireFormsUptoRow, standIns := [], harness := (true, "fb9bc430a8c3d1ec3cf5c583afd2f6f433d50b6defc10efd5610a60ea74336c1"), looks := true }, kinds := [], alts := [], laidByText := true, laidKinds := [.data, .data, .data], laidTests := true, laidLooks := .later }
def WireFormsUptoCardSaid : Prop := Claim7.holds Tryz.pinned (.plain (OpenSpec.upto wireFormsSpec)) wireFormsUptoCard

/-- THE SECOND FORM's CARD OF 'amanuensislaw18.WireLong'. -/
def wireLongUptoCard : Claim7 := { stood := { row := wireLongUptoRow, standIns := [], harness := (true, "fb9bc430a8c3d1ec3cf5c583afd2f6f433d50b6defc10efd5610a60ea74336c1"), looks := true }, kinds := [], alts := [], laidByText := true, laidKinds := [.data, .data, .data], laidTests := true, laidLooks := .later }
def WireLongUptoCardSaid : Prop := Claim7.holds Tryz.pinned (.plain (OpenSpec.upto wireLongSpec)) wireLongUptoCard
end Rows
end Go.Proofs.YtbabneakocnnoaaGreatDoor
