/-
  DERIVED. GIVEN WITH THE SEED: THE CARDS: each row of YtnbgieccindpnaaDoorRows.lean that lists a variable, with what it lists TIED to the program's text (the seventh form; the later family's looks); each row that meets fmt, with fmt's text TOLD by the authors' own Lean function (tested against real Go, not proved from fmt's source: count such statements apart). THE CARD IS WHAT COUNTS. Prove the row's statement (the work); the ties are given (YtnbgieccindpnaaDoorTie.lean); close each card by the builder's one call (the guide's Derived/Test/ToyasCard.lean, 'card_holds'). Laid BY PROGRAM, IN A SANDBOX (cutbox-door.mjs). By AI agents, Wed Nov 11 2026. No macro, syntax, notation, axiom, sorry.
-/
import Derived.Test.YtnbgieccindpnaaDoorRows
import GoSem.ClaimSeven
namespace Go.Proofs.YtnbgieccindpnaaDoor
namespace Rows

/-- THE TIED CARD OF 'sealwrightlaw27.LogFull'. -/
def logFullCard : Claim7 := { stood := { row := logFullRow, standIns := [], harness := (true, "c335673b52e76bccd54fb2584f337f8de7685fa62ac8d8e3a420911611e3c3d6"), looks := false }, kinds := [], alts := [], laidByText := true, laidKinds := [.data], laidTests := true, laidLooks := .later }
def LogFullCardSaid : Prop := Claim7.holds Tryd.pinned (.plain (OpenSpec.ofChange logFullSpec)) logFullCard

/-- THE TIED CARD OF 'sealwrightlaw27.LogPrefix'. -/
def logPrefixCard : Claim7 := { stood := { row := logPrefixRow, standIns := [], harness := (true, "c335673b52e76bccd54fb2584f337f8de7685fa62ac8d8e3a420911611e3c3d6"), looks := false }, kinds := [], alts := [], laidByText := true, laidKinds := [.data], laidTests := true, laidLooks := .later }
def LogPrefixCardSaid : Prop := Claim7.holds Tryd.pinned (.plain (OpenSpec.ofChange logPrefixSpec)) logPrefixCard

/-- THE TIED CARD OF 'sealwrightlaw27.LogHeader'. -/
def logHeaderCard : Claim7 := { stood := { row := logHeaderRow, standIns := [], harness := (true, "c335673b52e76bccd54fb2584f337f8de7685fa62ac8d8e3a420911611e3c3d6"), looks := false }, kinds := [], alts := [], laidByText := true, laidKinds := [.data], laidTests := true, laidLooks := .later }
def LogHeaderCardSaid : Prop := Claim7.holds Tryd.pinned (.plain (OpenSpec.ofChange logHeaderSpec)) logHeaderCard

/-- THE TIED CARD OF 'sealwrightlaw27.LogAdd'. -/
def logAddCard : Claim7 := { stood := { row := logAddRow, standIns := [], harness := (true, "c335673b52e76bccd54fb2584f337f8de7685fa62ac8d8e3a420911611e3c3d6"), looks := false }, kinds := [], alts := [], laidByText := true, laidKinds := [.data], laidTests := true, laidLooks := .later }
def LogAddCardSaid : Prop := Claim7.holds Tryd.pinned (.plain (OpenSpec.ofChange logAddSpec)) logAddCard

/-- THE TIED CARD OF 'sealwrightlaw27.LogIntact'. -/
def logIntactCard : Claim7 := { stood := { row := logIntactRow, standIns := [], harness := (true, "c335673b52e76bccd54fb2584f337f8de7685fa62ac8d8e3a420911611e3c3d6"), looks := false }, kinds := [], alts := [], laidByText := true, laidKinds := [.data], laidTests := true, laidLooks := .later }
def LogIntactCardSaid : Prop := Claim7.holds Tryd.pinned (.plain (OpenSpec.ofChange logIntactSpec)) logIntactCard

/-- THE TIED CARD OF 'sealwrightlaw27.LogFormat'. -/
def logFormatCard : Claim7 := { stood := { row := logFormatRow, standIns := [], harness := (true, "c335673b52e76bccd54fb2584f337f8de7685fa62ac8d8e3a420911611e3c3d6"), looks := false }, kinds := [], alts := [], laidByText := true, laidKinds := [.data], laidTests := true, laidLooks := .later }
def LogFormatCardSaid : Prop := Claim7.holds Tryd.pinned (.plain (OpenSpec.ofChange logFormatSpec)) logFormatCard

/-- THE TIED CARD OF 'sealwrightlaw27.LogParse'. -/
def logParseCard : Claim7 := { stood := { row := logParseRow, standIns := [], harness := (true, "c335673b52e76bccd54fb2584f337f8de7685fa62ac8d8e3a420911611e3c3d6"), looks := false }, kinds := [], alts := [], laidByText := true, laidKinds := [.data], laidTests := true, laidLooks := .later }
def LogParseCardSaid : Prop := Claim7.holds Tryd.pinned (.plain (OpenSpec.ofChange logParseSpec)) logParseCard

/-- THE SECOND FORM's CARD OF 'sealwrightlaw27.LogFull'. -/
def logFullUptoCard : Claim7 := { stood := { row := logFullUptoRow, standIns := [], harness := (true, "c335673b52e76bccd54fb2584f337f8de7685fa62ac8d8e3a420911611e3c3d6"), looks := false }, kinds := [], alts := [], laidByText := true, laidKinds := [.data], laidTests := true, laidLooks := .later }
def LogFullUptoCardSaid : Prop := Claim7.holds Tryd.pinned (.plain (OpenSpec.upto logFullSpec)) logFullUptoCard

/-- THE SECOND FORM's CARD OF 'sealwrightlaw27.LogPrefix'. -/
def logPrefixUptoCard : Claim7 := { stood := { row := logPrefixUptoRow, standIns := [], harness := (true, "c335673b52e76bccd54fb2584f337f8de7685fa62ac8d8e3a420911611e3c3d6"), looks := false }, kinds := [], alts := [], laidByText := true, laidKinds := [.data], laidTests := true, laidLooks := .later }
def LogPrefixUptoCardSaid : Prop := Claim7.holds Tryd.pinned (.plain (OpenSpec.upto logPrefixSpec)) logPrefixUptoCard

/-- THE SECOND FORM's CARD OF 'sealwrightlaw27.LogHeader'. -/
def logHeaderUptoCard : Claim7 := { stood := { row := logHeaderUptoRow, standIns := [], harness := (true, "c335673b52e76bccd54fb2584f337f8de7685fa62ac8d8e3a420911611e3c3d6"), looks := false }, kinds := [], alts := [], laidByText := true, laidKinds := [.data], laidTests := true, laidLooks := .later }
def LogHeaderUptoCardSaid : Prop := Claim7.holds Tryd.pinned (.plain (OpenSpec.upto logHeaderSpec)) logHeaderUptoCard

/-- THE SECOND FORM's CARD OF 'sealwrightlaw27.LogAdd'. -/
def logAddUptoCard : Claim7 := { stood := { row := logAddUptoRow, standIns := [], harness := (true, "c335673b52e76bccd54fb2584f337f8de7685fa62ac8d8e3a420911611e3c3d6"), looks := false }, kinds := [], alts := [], laidByText := true, laidKinds := [.data], laidTests := true, laidLooks := .later }
def LogAddUptoCardSaid : Prop := Claim7.holds Tryd.pinned (.plain (OpenSpec.upto logAddSpec)) logAddUptoCard

/-- THE SECOND FORM's CARD OF 'sealwrightlaw27.LogIntact'. -/
def logIntactUptoCard : Claim7 := { stood := { row := logIntactUptoRow, standIns := [], harness := (true, "c335673b52e76bccd54fb2584f337f8de7685fa62ac8d8e3a420911611e3c3d6"), looks := false }, kinds := [], alts := [], laidByText := true, laidKinds := [.data], laidTests := true, laidLooks := .later }
def LogIntactUptoCardSaid : Prop := Claim7.holds Tryd.pinned (.plain (OpenSpec.upto logIntactSpec)) logIntactUptoCard

/-- THE SECOND FORM's CARD OF 'sealwrightlaw27.LogFormat'. -/
def logFormatUptoCard : Claim7 := { stood := { row := logFormatUptoRow, standIns := [], harness := (true, "c335673b52e76bccd54fb2584f337f8de7685fa62ac8d8e3a420911611e3c3d6"), looks := false }, kinds := [], alts := [], laidByText := true, laidKinds := [.data], laidTests := true, laidLooks := .later }
def LogFormatUptoCardSaid : Prop := Claim7.holds Tryd.pinned (.plain (OpenSpec.upto logFormatSpec)) logFormatUptoCard

/-- THE SECOND FORM's CARD OF 'sealwrightlaw27.LogParse'. -/
def logParseUptoCard : Claim7 := { stood := { row := logParseUptoRow, standIns := [], harness := (true, "c335673b52e76bccd54fb2584f337f8de7685fa62ac8d8e3a420911611e3c3d6"), looks := false }, kinds := [], alts := [], laidByText := true, laidKinds := [.data], laidTests := true, laidLooks := .later }
def LogParseUptoCardSaid : Prop := Claim7.holds Tryd.pinned (.plain (OpenSpec.upto logParseSpec)) logParseUptoCard
end Rows
end Go.Proofs.YtnbgieccindpnaaDoor
