/-
  DERIVED. GIVEN WITH THE SEED: THE CARDS: each row of YtbbeoojlgfegjaaDoorRows.lean that lists a variable, with what it lists TIED to the program's text (the seventh form; the later family's looks); each row that meets fmt, with fmt's text TOLD by the authors' own Lean function (tested against real Go, not proved from fmt's source: count such statements apart). THE CARD IS WHAT COUNTS. Prove the row's statement (the work); the ties are given (YtbbeoojlgfegjaaDoorTie.lean); close each card by the builder's one call (the guide's Derived/Test/ToyasCard.lean, 'card_holds'). Laid BY PROGRAM, IN A SANDBOX (cutbox-door.mjs). By AI agents, Wed Nov 11 2026. No macro, syntax, notation, axiom, sorry.
-/
import Derived.Test.YtbbeoojlgfegjaaDoorRows
import GoSem.ClaimSeven
namespace Go.Proofs.YtbbeoojlgfegjaaDoor
namespace Rows

/-- THE TIED CARD OF 'sealwrightlaw15.JournalCommit'. -/
def journalCommitCard : Claim7 := { stood := { row := journalCommitRow, standIns := [], harness := (true, "32c3eaa2bf9681d28ae9f6305db325d57ea5a795c0ac198f74593bb4b40c5648"), looks := false }, kinds := [], alts := [], laidByText := true, laidKinds := [.data], laidTests := true, laidLooks := .later }
def JournalCommitCardSaid : Prop := Claim7.holds Tryd.pinned (.plain (OpenSpec.ofChange journalCommitSpec)) journalCommitCard

/-- THE TIED CARD OF 'sealwrightlaw15.JournalRecover'. -/
def journalRecoverCard : Claim7 := { stood := { row := journalRecoverRow, standIns := [], harness := (true, "32c3eaa2bf9681d28ae9f6305db325d57ea5a795c0ac198f74593bb4b40c5648"), looks := false }, kinds := [], alts := [], laidByText := true, laidKinds := [.data], laidTests := true, laidLooks := .later }
def JournalRecoverCardSaid : Prop := Claim7.holds Tryd.pinned (.plain (OpenSpec.ofChange journalRecoverSpec)) journalRecoverCard

/-- THE TIED CARD OF 'sealwrightlaw15.JournalTrip'. -/
def journalTripCard : Claim7 := { stood := { row := journalTripRow, standIns := [], harness := (true, "32c3eaa2bf9681d28ae9f6305db325d57ea5a795c0ac198f74593bb4b40c5648"), looks := false }, kinds := [], alts := [], laidByText := true, laidKinds := [.data], laidTests := true, laidLooks := .later }
def JournalTripCardSaid : Prop := Claim7.holds Tryd.pinned (.plain (OpenSpec.ofChange journalTripSpec)) journalTripCard

/-- THE TIED CARD OF 'sealwrightlaw15.JournalTail'. -/
def journalTailCard : Claim7 := { stood := { row := journalTailRow, standIns := [], harness := (true, "32c3eaa2bf9681d28ae9f6305db325d57ea5a795c0ac198f74593bb4b40c5648"), looks := false }, kinds := [], alts := [], laidByText := true, laidKinds := [.data], laidTests := true, laidLooks := .later }
def JournalTailCardSaid : Prop := Claim7.holds Tryd.pinned (.plain (OpenSpec.ofChange journalTailSpec)) journalTailCard

/-- THE TIED CARD OF 'sealwrightlaw15.JournalAtomic'. -/
def journalAtomicCard : Claim7 := { stood := { row := journalAtomicRow, standIns := [], harness := (true, "32c3eaa2bf9681d28ae9f6305db325d57ea5a795c0ac198f74593bb4b40c5648"), looks := false }, kinds := [], alts := [], laidByText := true, laidKinds := [.data], laidTests := true, laidLooks := .later }
def JournalAtomicCardSaid : Prop := Claim7.holds Tryd.pinned (.plain (OpenSpec.ofChange journalAtomicSpec)) journalAtomicCard

/-- THE TIED CARD OF 'sealwrightlaw15.JournalAgain'. -/
def journalAgainCard : Claim7 := { stood := { row := journalAgainRow, standIns := [], harness := (true, "32c3eaa2bf9681d28ae9f6305db325d57ea5a795c0ac198f74593bb4b40c5648"), looks := false }, kinds := [], alts := [], laidByText := true, laidKinds := [.data], laidTests := true, laidLooks := .later }
def JournalAgainCardSaid : Prop := Claim7.holds Tryd.pinned (.plain (OpenSpec.ofChange journalAgainSpec)) journalAgainCard

/-- THE SECOND FORM's CARD OF 'sealwrightlaw15.JournalCommit'. -/
def journalCommitUptoCard : Claim7 := { stood := { row := journalCommitUptoRow, standIns := [], harness := (true, "32c3eaa2bf9681d28ae9f6305db325d57ea5a795c0ac198f74593bb4b40c5648"), looks := false }, kinds := [], alts := [], laidByText := true, laidKinds := [.data], laidTests := true, laidLooks := .later }
def JournalCommitUptoCardSaid : Prop := Claim7.holds Tryd.pinned (.plain (OpenSpec.upto journalCommitSpec)) journalCommitUptoCard

/-- THE SECOND FORM's CARD OF 'sealwrightlaw15.JournalRecover'. -/
def journalRecoverUptoCard : Claim7 := { stood := { row := journalRecoverUptoRow, standIns := [], harness := (true, "32c3eaa2bf9681d28ae9f6305db325d57ea5a795c0ac198f74593bb4b40c5648"), looks := false }, kinds := [], alts := [], laidByText := true, laidKinds := [.data], laidTests := true, laidLooks := .later }
def JournalRecoverUptoCardSaid : Prop := Claim7.holds Tryd.pinned (.plain (OpenSpec.upto journalRecoverSpec)) journalRecoverUptoCard

/-- THE SECOND FORM's CARD OF 'sealwrightlaw15.JournalTrip'. -/
def journalTripUptoCard : Claim7 := { stood := { row := journalTripUptoRow, standIns := [], harness := (true, "32c3eaa2bf9681d28ae9f6305db325d57ea5a795c0ac198f74593bb4b40c5648"), looks := false }, kinds := [], alts := [], laidByText := true, laidKinds := [.data], laidTests := true, laidLooks := .later }
def JournalTripUptoCardSaid : Prop := Claim7.holds Tryd.pinned (.plain (OpenSpec.upto journalTripSpec)) journalTripUptoCard

/-- THE SECOND FORM's CARD OF 'sealwrightlaw15.JournalTail'. -/
def journalTailUptoCard : Claim7 := { stood := { row := journalTailUptoRow, standIns := [], harness := (true, "32c3eaa2bf9681d28ae9f6305db325d57ea5a795c0ac198f74593bb4b40c5648"), looks := false }, kinds := [], alts := [], laidByText := true, laidKinds := [.data], laidTests := true, laidLooks := .later }
def JournalTailUptoCardSaid : Prop := Claim7.holds Tryd.pinned (.plain (OpenSpec.upto journalTailSpec)) journalTailUptoCard

/-- THE SECOND FORM's CARD OF 'sealwrightlaw15.JournalAtomic'. -/
def journalAtomicUptoCard : Claim7 := { stood := { row := journalAtomicUptoRow, standIns := [], harness := (true, "32c3eaa2bf9681d28ae9f6305db325d57ea5a795c0ac198f74593bb4b40c5648"), looks := false }, kinds := [], alts := [], laidByText := true, laidKinds := [.data], laidTests := true, laidLooks := .later }
def JournalAtomicUptoCardSaid : Prop := Claim7.holds Tryd.pinned (.plain (OpenSpec.upto journalAtomicSpec)) journalAtomicUptoCard

/-- THE SECOND FORM's CARD OF 'sealwrightlaw15.JournalAgain'. -/
def journalAgainUptoCard : Claim7 := { stood := { row := journalAgainUptoRow, standIns := [], harness := (true, "32c3eaa2bf9681d28ae9f6305db325d57ea5a795c0ac198f74593bb4b40c5648"), looks := false }, kinds := [], alts := [], laidByText := true, laidKinds := [.data], laidTests := true, laidLooks := .later }
def JournalAgainUptoCardSaid : Prop := Claim7.holds Tryd.pinned (.plain (OpenSpec.upto journalAgainSpec)) journalAgainUptoCard
end Rows
end Go.Proofs.YtbbeoojlgfegjaaDoor
