/-
  NARROWER THAN 'FOR EVERY INPUT', by the rows' own cells (each row's printed sentence says how): JournalCommit: laid · JournalRecover: laid · JournalTrip: laid · JournalTail: laid · JournalAtomic: laid · JournalAgain: laid.
  DERIVED. THE GIVEN ROWS OF THIS SEAT. 6 by the template 'for every input the law returns true; each argument reads behind the call as it read before'; 0 by the template 'total and deterministic' (their statements: YtbbeoojlgfegjaaDoorTotals.lean).
  GIVEN WITH THE SEED: the statements are not yours to turn. If you find one false, say at which input.
  Laid BY PROGRAM, IN A SANDBOX (cutbox-rows.mjs): the forced cells as the released guide's own fill.sh prints them over the translation 8fe5272160c434da… (all of the seat's roots in one cut). By AI agents, Wed Nov 11 2026. No macro, syntax, notation, axiom, sorry.
-/
import Derived.Test.YtbbeoojlgfegjaaDoorChecked
import GoSem.Claim
import GoSem.ClaimJoined
import GoSem.ClaimMapViews
import Derived.JoinedTies
import Derived.KernelRfl
namespace Go.Proofs.YtbbeoojlgfegjaaDoor
/- THE CELL 'sum', in the pinned program and in every row, IS THE sha256 OF THE DUMP (.gsa) THAT YtbbeoojlgfegjaaDoorProg.lean LOADS. Nothing in Lean hashes anything: it is a label: what it is worth is what the hold of that sum in a sandbox is worth. -/
noncomputable def Tryd.pinned : Pinned := { name := "ytbbeoojlgfegjaadoor", sum := "8fe5272160c434da0d1f5f0244dd7fe720a8535c1cfdb5b483d44e677da5e914", checked := Tryd.checked }
namespace Rows
def none {H : Type} : Left H := { results := [], args := [] }

/- WHAT THE LISTED PACKAGE-LEVEL VARIABLES READ AS WHEN THE CALL BEGINS. Each datum BY PROGRAM (the guide's laid-datum.mjs) off the statement by which the dump's own 'gosem.cut.vars' lays the variable. In a bare row this is a premise. The card (YtbbeoojlgfegjaaDoorCards.lean) ties it to the program's text. -/
def laid_sealwright_digest_round256 {H : Type} : DataW H := .agg [.lit (.int .u32 1116352408), .lit (.int .u32 1899447441), .lit (.int .u32 3049323471), .lit (.int .u32 3921009573), .lit (.int .u32 961987163), .lit (.int .u32 1508970993), .lit (.int .u32 2453635748), .lit (.int .u32 2870763221), .lit (.int .u32 3624381080), .lit (.int .u32 310598401), .lit (.int .u32 607225278), .lit (.int .u32 1426881987), .lit (.int .u32 1925078388), .lit (.int .u32 2162078206), .lit (.int .u32 2614888103), .lit (.int .u32 3248222580), .lit (.int .u32 3835390401), .lit (.int .u32 4022224774), .lit (.int .u32 264347078), .lit (.int .u32 604807628), .lit (.int .u32 770255983), .lit (.int .u32 1249150122), .lit (.int .u32 1555081692), .lit (.int .u32 1996064986), .lit (.int .u32 2554220882), .lit (.int .u32 2821834349), .lit (.int .u32 2952996808), .lit (.int .u32 3210313671), .lit (.int .u32 3336571891), .lit (.int .u32 3584528711), .lit (.int .u32 113926993), .lit (.int .u32 338241895), .lit (.int .u32 666307205), .lit (.int .u32 773529912), .lit (.int .u32 1294757372), .lit (.int .u32 1396182291), .lit (.int .u32 1695183700), .lit (.int .u32 1986661051), .lit (.int .u32 2177026350), .lit (.int .u32 2456956037), .lit (.int .u32 2730485921), .lit (.int .u32 2820302411), .lit (.int .u32 3259730800), .lit (.int .u32 3345764771), .lit (.int .u32 3516065817), .lit (.int .u32 3600352804), .lit (.int .u32 4094571909), .lit (.int .u32 275423344), .lit (.int .u32 430227734), .lit (.int .u32 506948616), .lit (.int .u32 659060556), .lit (.int .u32 883997877), .lit (.int .u32 958139571), .lit (.int .u32 1322822218), .lit (.int .u32 1537002063), .lit (.int .u32 1747873779), .lit (.int .u32 1955562222), .lit (.int .u32 2024104815), .lit (.int .u32 2227730452), .lit (.int .u32 2361852424), .lit (.int .u32 2428436474), .lit (.int .u32 2756734187), .lit (.int .u32 3204031479), .lit (.int .u32 3329325298)]

/-- 'sealwrightlaw15.JournalCommit': WHATEVER THE INPUT: true; the input reads as it did. -/
def journalCommitSpec : ChangeSpec := { name := "journalCommit", fn := fun _ => fun
  | [d1, d2, d3, d4, d5, d6] => { results := [.lit (.bool true)], args := [d1, d2, d3, d4, d5, d6] }
  | _ => none }
def journalCommitRow : OpenClaim := { program := "ytbbeoojlgfegjaadoor", sum := "8fe5272160c434da0d1f5f0244dd7fe720a8535c1cfdb5b483d44e677da5e914", func := "sealwright/sealwrightlaw15.JournalCommit", spec := "journalCommit", unfollowed := true, recurses := true, named := ["sealwright/digest.round256"], apart := false, laid := [("sealwright/digest.round256", laid_sealwright_digest_round256)] }
def JournalCommitSaid : Prop := journalCommitRow.holds Tryd.pinned (OpenSpec.ofChange journalCommitSpec)

/-- ITS FALSE NEIGHBOUR: 'it returns false'. Refute it at one input. -/
def journalCommitWrong : ChangeSpec := { name := "journalCommit", fn := fun _ => fun
  | [d1, d2, d3, d4, d5, d6] => { results := [.lit (.bool false)], args := [d1, d2, d3, d4, d5, d6] }
  | _ => none }
def JournalCommitWrongFalsely : Prop := journalCommitRow.holds Tryd.pinned (OpenSpec.ofChange journalCommitWrong)

/-- 'sealwrightlaw15.JournalRecover': WHATEVER THE INPUT: true; the input reads as it did. -/
def journalRecoverSpec : ChangeSpec := { name := "journalRecover", fn := fun _ => fun
  | [d1, d2, d3, d4, d5, d6, d7] => { results := [.lit (.bool true)], args := [d1, d2, d3, d4, d5, d6, d7] }
  | _ => none }
def journalRecoverRow : OpenClaim := { program := "ytbbeoojlgfegjaadoor", sum := "8fe5272160c434da0d1f5f0244dd7fe720a8535c1cfdb5b483d44e677da5e914", func := "sealwright/sealwrightlaw15.JournalRecover", spec := "journalRecover", unfollowed := true, recurses := true, named := ["sealwright/digest.round256"], apart := false, laid := [("sealwright/digest.round256", laid_sealwright_digest_round256)] }
def JournalRecoverSaid : Prop := journalRecoverRow.holds Tryd.pinned (OpenSpec.ofChange journalRecoverSpec)

/-- ITS FALSE NEIGHBOUR: 'it returns false'. Refute it at one input. -/
def journalRecoverWrong : ChangeSpec := { name := "journalRecover", fn := fun _ => fun
  | [d1, d2, d3, d4, d5, d6, d7] => { results := [.lit (.bool false)], args := [d1, d2, d3, d4, d5, d6, d7] }
  | _ => none }
def JournalRecoverWrongFalsely : Prop := journalRecoverRow.holds Tryd.pinned (OpenSpec.ofChange journalRecoverWrong)

/-- 'sealwrightlaw15.JournalTrip': WHATEVER THE INPUT: true; the input reads as it did. -/
def journalTripSpec : ChangeSpec := { name := "journalTrip", fn := fun _ => fun
  | [d1, d2, d3] => { results := [.lit (.bool true)], args := [d1, d2, d3] }
  | _ => none }
def journalTripRow : OpenClaim := { program := "ytbbeoojlgfegjaadoor", sum := "8fe5272160c434da0d1f5f0244dd7fe720a8535c1cfdb5b483d44e677da5e914", func := "sealwright/sealwrightlaw15.JournalTrip", spec := "journalTrip", unfollowed := true, recurses := true, named := ["sealwright/digest.round256"], apart := false, laid := [("sealwright/digest.round256", laid_sealwright_digest_round256)] }
def JournalTripSaid : Prop := journalTripRow.holds Tryd.pinned (OpenSpec.ofChange journalTripSpec)

/-- ITS FALSE NEIGHBOUR: 'it returns false'. Refute it at one input. -/
def journalTripWrong : ChangeSpec := { name := "journalTrip", fn := fun _ => fun
  | [d1, d2, d3] => { results := [.lit (.bool false)], args := [d1, d2, d3] }
  | _ => none }
def JournalTripWrongFalsely : Prop := journalTripRow.holds Tryd.pinned (OpenSpec.ofChange journalTripWrong)

/-- 'sealwrightlaw15.JournalTail': WHATEVER THE INPUT: true; the input reads as it did. -/
def journalTailSpec : ChangeSpec := { name := "journalTail", fn := fun _ => fun
  | [d1, d2, d3] => { results := [.lit (.bool true)], args := [d1, d2, d3] }
  | _ => none }
def journalTailRow : OpenClaim := { program := "ytbbeoojlgfegjaadoor", sum := "8fe5272160c434da0d1f5f0244dd7fe720a8535c1cfdb5b483d44e677da5e914", func := "sealwright/sealwrightlaw15.JournalTail", spec := "journalTail", unfollowed := true, recurses := true, named := ["sealwright/digest.round256"], apart := false, laid := [("sealwright/digest.round256", laid_sealwright_digest_round256)] }
def JournalTailSaid : Prop := journalTailRow.holds Tryd.pinned (OpenSpec.ofChange journalTailSpec)

/-- ITS FALSE NEIGHBOUR: 'it returns false'. Refute it at one input. -/
def journalTailWrong : ChangeSpec := { name := "journalTail", fn := fun _ => fun
  | [d1, d2, d3] => { results := [.lit (.bool false)], args := [d1, d2, d3] }
  | _ => none }
def JournalTailWrongFalsely : Prop := journalTailRow.holds Tryd.pinned (OpenSpec.ofChange journalTailWrong)

/-- 'sealwrightlaw15.JournalAtomic': WHATEVER THE INPUT: true; the input reads as it did. -/
def journalAtomicSpec : ChangeSpec := { name := "journalAtomic", fn := fun _ => fun
  | [d1, d2, d3, d4] => { results := [.lit (.bool true)], args := [d1, d2, d3, d4] }
  | _ => none }
def journalAtomicRow : OpenClaim := { program := "ytbbeoojlgfegjaadoor", sum := "8fe5272160c434da0d1f5f0244dd7fe720a8535c1cfdb5b483d44e677da5e914", func := "sealwright/sealwrightlaw15.JournalAtomic", spec := "journalAtomic", unfollowed := true, recurses := true, named := ["sealwright/digest.round256"], apart := false, laid := [("sealwright/digest.round256", laid_sealwright_digest_round256)] }
def JournalAtomicSaid : Prop := journalAtomicRow.holds Tryd.pinned (OpenSpec.ofChange journalAtomicSpec)

/-- ITS FALSE NEIGHBOUR: 'it returns false'. Refute it at one input. -/
def journalAtomicWrong : ChangeSpec := { name := "journalAtomic", fn := fun _ => fun
  | [d1, d2, d3, d4] => { results := [.lit (.bool false)], args := [d1, d2, d3, d4] }
  | _ => none }
def JournalAtomicWrongFalsely : Prop := journalAtomicRow.holds Tryd.pinned (OpenSpec.ofChange journalAtomicWrong)

/-- 'sealwrightlaw15.JournalAgain': WHATEVER THE INPUT: true; the input reads as it did. -/
def journalAgainSpec : ChangeSpec := { name := "journalAgain", fn := fun _ => fun
  | [d1, d2, d3, d4, d5] => { results := [.lit (.bool true)], args := [d1, d2, d3, d4, d5] }
  | _ => none }
def journalAgainRow : OpenClaim := { program := "ytbbeoojlgfegjaadoor", sum := "8fe5272160c434da0d1f5f0244dd7fe720a8535c1cfdb5b483d44e677da5e914", func := "sealwright/sealwrightlaw15.JournalAgain", spec := "journalAgain", unfollowed := true, recurses := true, named := ["sealwright/digest.round256"], apart := false, laid := [("sealwright/digest.round256", laid_sealwright_digest_round256)] }
def JournalAgainSaid : Prop := journalAgainRow.holds Tryd.pinned (OpenSpec.ofChange journalAgainSpec)

/-- ITS FALSE NEIGHBOUR: 'it returns false'. Refute it at one input. -/
def journalAgainWrong : ChangeSpec := { name := "journalAgain", fn := fun _ => fun
  | [d1, d2, d3, d4, d5] => { results := [.lit (.bool false)], args := [d1, d2, d3, d4, d5] }
  | _ => none }
def JournalAgainWrongFalsely : Prop := journalAgainRow.holds Tryd.pinned (OpenSpec.ofChange journalAgainWrong)

/- THE SECOND FORM. 'bulk': how many values and letters a reading holds, each counted each time it is reached (what is shared counts as often as it is met; a slice's spare places count too). A statement '..UptoSaid' is the law's where the arguments, and the package variables that the reading takes, are together of bulk at most 1048576: NARROWER than '..Said'. Prove '..Said' where nothing that the law and all that it calls make is longer than what came in: it says more and counts as full. Else prove '..UptoSaid'. A law counts once. -/
mutual
def uptoBulk {H : Type} : DataW H → Nat
  | .lit (.string bytes) => bytes.length + 1
  | .lit _ => 1
  | .nil => 1
  | .ptr d => uptoBulk d + 1
  | .slice elems spare => uptoBulkAll elems + uptoBulkAll spare + 1
  | .agg parts => uptoBulkAll parts + 1
  | .iface _ d => uptoBulk d + 1
  | .map entries => uptoBulkEntries entries + 1
  | .held _ => 1
def uptoBulkAll {H : Type} : List (DataW H) → Nat
  | [] => 0
  | d :: r => uptoBulk d + uptoBulkAll r
def uptoBulkEntries {H : Type} : List (Lit × DataW H) → Nat
  | [] => 0
  | x :: r => uptoBulkEntry x + uptoBulkEntries r
def uptoBulkEntry {H : Type} : Lit × DataW H → Nat
  | (.string bytes, d) => bytes.length + uptoBulk d + 1
  | (_, d) => uptoBulk d + 1
 end
def uptoSmall : (H : Type) → List (DataW H) → Bool := fun _ ds => decide (uptoBulkAll ds ≤ 1048576)
def OpenSpec.upto (s : _root_.Go.ChangeSpec) : _root_.Go.OpenSpec := { _root_.Go.OpenSpec.ofChange s with cond := some uptoSmall }

/-- 'sealwrightlaw15.JournalCommit', WHERE WHAT IT READS IS OF BULK AT MOST 1048576: true; the input reads as it did. -/
def journalCommitUptoRow : OpenClaim := { program := "ytbbeoojlgfegjaadoor", sum := "8fe5272160c434da0d1f5f0244dd7fe720a8535c1cfdb5b483d44e677da5e914", func := "sealwright/sealwrightlaw15.JournalCommit", spec := "journalCommit", unfollowed := true, recurses := true, named := ["sealwright/digest.round256"], apart := false, laid := [("sealwright/digest.round256", laid_sealwright_digest_round256)], narrowed := true }
def JournalCommitUptoSaid : Prop := journalCommitUptoRow.holds Tryd.pinned (OpenSpec.upto journalCommitSpec)

/-- 'sealwrightlaw15.JournalRecover', WHERE WHAT IT READS IS OF BULK AT MOST 1048576: true; the input reads as it did. -/
def journalRecoverUptoRow : OpenClaim := { program := "ytbbeoojlgfegjaadoor", sum := "8fe5272160c434da0d1f5f0244dd7fe720a8535c1cfdb5b483d44e677da5e914", func := "sealwright/sealwrightlaw15.JournalRecover", spec := "journalRecover", unfollowed := true, recurses := true, named := ["sealwright/digest.round256"], apart := false, laid := [("sealwright/digest.round256", laid_sealwright_digest_round256)], narrowed := true }
def JournalRecoverUptoSaid : Prop := journalRecoverUptoRow.holds Tryd.pinned (OpenSpec.upto journalRecoverSpec)

/-- 'sealwrightlaw15.JournalTrip', WHERE WHAT IT READS IS OF BULK AT MOST 1048576: true; the input reads as it did. -/
def journalTripUptoRow : OpenClaim := { program := "ytbbeoojlgfegjaadoor", sum := "8fe5272160c434da0d1f5f0244dd7fe720a8535c1cfdb5b483d44e677da5e914", func := "sealwright/sealwrightlaw15.JournalTrip", spec := "journalTrip", unfollowed := true, recurses := true, named := ["sealwright/digest.round256"], apart := false, laid := [("sealwright/digest.round256", laid_sealwright_digest_round256)], narrowed := true }
def JournalTripUptoSaid : Prop := journalTripUptoRow.holds Tryd.pinned (OpenSpec.upto journalTripSpec)

/-- 'sealwrightlaw15.JournalTail', WHERE WHAT IT READS IS OF BULK AT MOST 1048576: true; the input reads as it did. -/
def journalTailUptoRow : OpenClaim := { program := "ytbbeoojlgfegjaadoor", sum := "8fe5272160c434da0d1f5f0244dd7fe720a8535c1cfdb5b483d44e677da5e914", func := "sealwright/sealwrightlaw15.JournalTail", spec := "journalTail", unfollowed := true, recurses := true, named := ["sealwright/digest.round256"], apart := false, laid := [("sealwright/digest.round256", laid_sealwright_digest_round256)], narrowed := true }
def JournalTailUptoSaid : Prop := journalTailUptoRow.holds Tryd.pinned (OpenSpec.upto journalTailSpec)

/-- 'sealwrightlaw15.JournalAtomic', WHERE WHAT IT READS IS OF BULK AT MOST 1048576: true; the input reads as it did. -/
def journalAtomicUptoRow : OpenClaim := { program := "ytbbeoojlgfegjaadoor", sum := "8fe5272160c434da0d1f5f0244dd7fe720a8535c1cfdb5b483d44e677da5e914", func := "sealwright/sealwrightlaw15.JournalAtomic", spec := "journalAtomic", unfollowed := true, recurses := true, named := ["sealwright/digest.round256"], apart := false, laid := [("sealwright/digest.round256", laid_sealwright_digest_round256)], narrowed := true }
def JournalAtomicUptoSaid : Prop := journalAtomicUptoRow.holds Tryd.pinned (OpenSpec.upto journalAtomicSpec)

/-- 'sealwrightlaw15.JournalAgain', WHERE WHAT IT READS IS OF BULK AT MOST 1048576: true; the input reads as it did. -/
def journalAgainUptoRow : OpenClaim := { program := "ytbbeoojlgfegjaadoor", sum := "8fe5272160c434da0d1f5f0244dd7fe720a8535c1cfdb5b483d44e677da5e914", func := "sealwright/sealwrightlaw15.JournalAgain", spec := "journalAgain", unfollowed := true, recurses := true, named := ["sealwright/digest.round256"], apart := false, laid := [("sealwright/digest.round256", laid_sealwright_digest_round256)], narrowed := true }
def JournalAgainUptoSaid : Prop := journalAgainUptoRow.holds Tryd.pinned (OpenSpec.upto journalAgainSpec)

end Rows
end Go.Proofs.YtbbeoojlgfegjaaDoor
