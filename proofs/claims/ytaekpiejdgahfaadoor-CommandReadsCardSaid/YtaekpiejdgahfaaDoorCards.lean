/-
  DERIVED. GIVEN WITH THE SEED: THE CARDS: each row of YtaekpiejdgahfaaDoorRows.lean that lists a variable, with what it lists TIED to the program's text (the seventh form; the later family's looks); each row that meets fmt, with fmt's text TOLD by the authors' own Lean function (tested against real Go, not proved from fmt's source: count such statements apart). THE CARD IS WHAT COUNTS. Prove the row's statement (the work); the ties are given (YtaekpiejdgahfaaDoorTie.lean); close each card by the builder's one call (the guide's Derived/Test/ToyasCard.lean, 'card_holds'). Laid BY PROGRAM, IN A SANDBOX (cutbox-door.mjs). By AI agents, Wed Nov 11 2026. No macro, syntax, notation, axiom, sorry.
-/
import Derived.Test.YtaekpiejdgahfaaDoorRows
import GoSem.ClaimSeven
namespace Go.Proofs.YtaekpiejdgahfaaDoor
namespace Rows

/-- THE TIED CARD OF 'sealwrightlaw22.CommandShape'. -/
def commandShapeCard : Claim7 := { stood := { row := commandShapeRow, standIns := [], harness := (true, "bcbb78fcf4cb282937946e2dc3e6560376b339793048c34c16cc9c696abbce5f"), looks := false }, kinds := [], alts := [], laidByText := true, laidKinds := [.widerDeep, .data], laidTests := true, laidLooks := .later }
def CommandShapeCardSaid : Prop := Claim7.holds Tryd.pinned (.plain (OpenSpec.ofChange commandShapeSpec)) commandShapeCard

/-- THE TIED CARD OF 'sealwrightlaw22.CommandCheck'. -/
def commandCheckCard : Claim7 := { stood := { row := commandCheckRow, standIns := [], harness := (true, "bcbb78fcf4cb282937946e2dc3e6560376b339793048c34c16cc9c696abbce5f"), looks := false }, kinds := [], alts := [], laidByText := true, laidKinds := [.widerDeep, .data], laidTests := true, laidLooks := .later }
def CommandCheckCardSaid : Prop := Claim7.holds Tryd.pinned (.plain (OpenSpec.ofChange commandCheckSpec)) commandCheckCard

/-- THE TIED CARD OF 'sealwrightlaw22.CommandTrip'. -/
def commandTripCard : Claim7 := { stood := { row := commandTripRow, standIns := [], harness := (true, "bcbb78fcf4cb282937946e2dc3e6560376b339793048c34c16cc9c696abbce5f"), looks := false }, kinds := [], alts := [], laidByText := true, laidKinds := [.widerDeep, .data], laidTests := true, laidLooks := .later }
def CommandTripCardSaid : Prop := Claim7.holds Tryd.pinned (.plain (OpenSpec.ofChange commandTripSpec)) commandTripCard

/-- THE TIED CARD OF 'sealwrightlaw22.CommandDecode'. -/
def commandDecodeCard : Claim7 := { stood := { row := commandDecodeRow, standIns := [], harness := (true, "bcbb78fcf4cb282937946e2dc3e6560376b339793048c34c16cc9c696abbce5f"), looks := false }, kinds := [], alts := [], laidByText := true, laidKinds := [.widerDeep, .data], laidTests := true, laidLooks := .later }
def CommandDecodeCardSaid : Prop := Claim7.holds Tryd.pinned (.plain (OpenSpec.ofChange commandDecodeSpec)) commandDecodeCard

/-- THE TIED CARD OF 'sealwrightlaw22.CommandLong'. -/
def commandLongCard : Claim7 := { stood := { row := commandLongRow, standIns := [], harness := (true, "bcbb78fcf4cb282937946e2dc3e6560376b339793048c34c16cc9c696abbce5f"), looks := false }, kinds := [], alts := [], laidByText := true, laidKinds := [.widerDeep, .data], laidTests := true, laidLooks := .later }
def CommandLongCardSaid : Prop := Claim7.holds Tryd.pinned (.plain (OpenSpec.ofChange commandLongSpec)) commandLongCard

/-- THE TIED CARD OF 'sealwrightlaw22.CommandReads'. -/
def commandReadsCard : Claim7 := { stood := { row := commandReadsRow, standIns := [], harness := (true, "bcbb78fcf4cb282937946e2dc3e6560376b339793048c34c16cc9c696abbce5f"), looks := false }, kinds := [], alts := [], laidByText := true, laidKinds := [.widerDeep, .data], laidTests := true, laidLooks := .later }
def CommandReadsCardSaid : Prop := Claim7.holds Tryd.pinned (.plain (OpenSpec.ofChange commandReadsSpec)) commandReadsCard

/-- THE TIED CARD OF 'sealwrightlaw22.CommandResponse'. -/
def commandResponseCard : Claim7 := { stood := { row := commandResponseRow, standIns := [], harness := (true, "bcbb78fcf4cb282937946e2dc3e6560376b339793048c34c16cc9c696abbce5f"), looks := false }, kinds := [], alts := [], laidByText := true, laidKinds := [.widerDeep, .data], laidTests := true, laidLooks := .later }
def CommandResponseCardSaid : Prop := Claim7.holds Tryd.pinned (.plain (OpenSpec.ofChange commandResponseSpec)) commandResponseCard

/-- THE SECOND FORM's CARD OF 'sealwrightlaw22.CommandShape'. -/
def commandShapeUptoCard : Claim7 := { stood := { row := commandShapeUptoRow, standIns := [], harness := (true, "bcbb78fcf4cb282937946e2dc3e6560376b339793048c34c16cc9c696abbce5f"), looks := false }, kinds := [], alts := [], laidByText := true, laidKinds := [.widerDeep, .data], laidTests := true, laidLooks := .later }
def CommandShapeUptoCardSaid : Prop := Claim7.holds Tryd.pinned (.plain (OpenSpec.upto commandShapeSpec)) commandShapeUptoCard

/-- THE SECOND FORM's CARD OF 'sealwrightlaw22.CommandCheck'. -/
def commandCheckUptoCard : Claim7 := { stood := { row := commandCheckUptoRow, standIns := [], harness := (true, "bcbb78fcf4cb282937946e2dc3e6560376b339793048c34c16cc9c696abbce5f"), looks := false }, kinds := [], alts := [], laidByText := true, laidKinds := [.widerDeep, .data], laidTests := true, laidLooks := .later }
def CommandCheckUptoCardSaid : Prop := Claim7.holds Tryd.pinned (.plain (OpenSpec.upto commandCheckSpec)) commandCheckUptoCard

/-- THE SECOND FORM's CARD OF 'sealwrightlaw22.CommandTrip'. -/
def commandTripUptoCard : Claim7 := { stood := { row := commandTripUptoRow, standIns := [], harness := (true, "bcbb78fcf4cb282937946e2dc3e6560376b339793048c34c16cc9c696abbce5f"), looks := false }, kinds := [], alts := [], laidByText := true, laidKinds := [.widerDeep, .data], laidTests := true, laidLooks := .later }
def CommandTripUptoCardSaid : Prop := Claim7.holds Tryd.pinned (.plain (OpenSpec.upto commandTripSpec)) commandTripUptoCard

/-- THE SECOND FORM's CARD OF 'sealwrightlaw22.CommandDecode'. -/
def commandDecodeUptoCard : Claim7 := { stood := { row := commandDecodeUptoRow, standIns := [], harness := (true, "bcbb78fcf4cb282937946e2dc3e6560376b339793048c34c16cc9c696abbce5f"), looks := false }, kinds := [], alts := [], laidByText := true, laidKinds := [.widerDeep, .data], laidTests := true, laidLooks := .later }
def CommandDecodeUptoCardSaid : Prop := Claim7.holds Tryd.pinned (.plain (OpenSpec.upto commandDecodeSpec)) commandDecodeUptoCard

/-- THE SECOND FORM's CARD OF 'sealwrightlaw22.CommandLong'. -/
def commandLongUptoCard : Claim7 := { stood := { row := commandLongUptoRow, standIns := [], harness := (true, "bcbb78fcf4cb282937946e2dc3e6560376b339793048c34c16cc9c696abbce5f"), looks := false }, kinds := [], alts := [], laidByText := true, laidKinds := [.widerDeep, .data], laidTests := true, laidLooks := .later }
def CommandLongUptoCardSaid : Prop := Claim7.holds Tryd.pinned (.plain (OpenSpec.upto commandLongSpec)) commandLongUptoCard

/-- THE SECOND FORM's CARD OF 'sealwrightlaw22.CommandReads'. -/
def commandReadsUptoCard : Claim7 := { stood := { row := commandReadsUptoRow, standIns := [], harness := (true, "bcbb78fcf4cb282937946e2dc3e6560376b339793048c34c16cc9c696abbce5f"), looks := false }, kinds := [], alts := [], laidByText := true, laidKinds := [.widerDeep, .data], laidTests := true, laidLooks := .later }
def CommandReadsUptoCardSaid : Prop := Claim7.holds Tryd.pinned (.plain (OpenSpec.upto commandReadsSpec)) commandReadsUptoCard

/-- THE SECOND FORM's CARD OF 'sealwrightlaw22.CommandResponse'. -/
def commandResponseUptoCard : Claim7 := { stood := { row := commandResponseUptoRow, standIns := [], harness := (true, "bcbb78fcf4cb282937946e2dc3e6560376b339793048c34c16cc9c696abbce5f"), looks := false }, kinds := [], alts := [], laidByText := true, laidKinds := [.widerDeep, .data], laidTests := true, laidLooks := .later }
def CommandResponseUptoCardSaid : Prop := Claim7.holds Tryd.pinned (.plain (OpenSpec.upto commandResponseSpec)) commandResponseUptoCard
end Rows
end Go.Proofs.YtaekpiejdgahfaaDoor
