/-
  DERIVED. GIVEN WITH THE SEED: THE CARDS: each row of YtdekjkcnfebfnaaDoorRows.lean that lists a variable, with what it lists TIED to the program's text (the seventh form; the later family's looks); each row that meets fmt, with fmt's text TOLD by the authors' own Lean function (tested against real Go, not proved from fmt's source: count such statements apart). THE CARD IS WHAT COUNTS. Prove the row's statement (the work); the ties are given (YtdekjkcnfebfnaaDoorTie.lean); close each card by the builder's one call (the guide's Derived/Test/ToyasCard.lean, 'card_holds'). Laid BY PROGRAM, IN A SANDBOX (cutbox-door.mjs). By AI agents, Wed Nov 11 2026. No macro, syntax, notation, axiom, sorry.
-/
import Derived.Test.YtdekjkcnfebfnaaDoorRows
import GoSem.ClaimSeven
namespace Go.Proofs.YtdekjkcnfebfnaaDoor
namespace Rows

/-- THE TIED CARD OF 'sealwrightlaw12.IndexExtend'. -/
def indexExtendCard : Claim7 := { stood := { row := indexExtendRow, standIns := [], harness := (true, "c40b472f2e6f8d6d70b084754d5039471ae89212379bc80e311742012d8b209d"), looks := false }, kinds := [], alts := [], laidByText := true, laidKinds := [.data], laidTests := true, laidLooks := .later }
def IndexExtendCardSaid : Prop := Claim7.holds Tryd.pinned (.plain (OpenSpec.ofChange indexExtendSpec)) indexExtendCard

/-- THE SECOND FORM's CARD OF 'sealwrightlaw12.IndexExtend'. -/
def indexExtendUptoCard : Claim7 := { stood := { row := indexExtendUptoRow, standIns := [], harness := (true, "c40b472f2e6f8d6d70b084754d5039471ae89212379bc80e311742012d8b209d"), looks := false }, kinds := [], alts := [], laidByText := true, laidKinds := [.data], laidTests := true, laidLooks := .later }
def IndexExtendUptoCardSaid : Prop := Claim7.holds Tryd.pinned (.plain (OpenSpec.upto indexExtendSpec)) indexExtendUptoCard
end Rows
end Go.Proofs.YtdekjkcnfebfnaaDoor
