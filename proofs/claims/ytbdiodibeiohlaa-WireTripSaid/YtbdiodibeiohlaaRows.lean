/-
  No cell of these rows narrows 'for every input' (looked for: loops, veiled, ifaces, maps, wideKeys, modest, calm, conditions, laid).
  DERIVED. THE GIVEN ROWS OF THIS SEAT. 6 by the template 'for every input the law returns true; each argument reads behind the call as it read before'; 0 by the template 'total and deterministic' (their statements: YtbdiodibeiohlaaTotals.lean).
  GIVEN WITH THE SEED: the statements are not yours to turn. If you find one false, say at which input.
  Laid BY PROGRAM, IN A SANDBOX (cutbox-rows.mjs): the forced cells as the released guide's own fill.sh prints them over the translation 6dfe41f420d82871… (all of the seat's roots in one cut). By AI agents, Wed Nov 11 2026. No macro, syntax, notation, axiom, sorry.
-/
import Derived.Test.YtbdiodibeiohlaaChecked
import GoSem.Claim
import GoSem.ClaimJoined
import GoSem.ClaimMapViews
import Derived.JoinedTies
import Derived.KernelRfl
namespace Go.Proofs.Ytbdiodibeiohlaa
/- THE CELL 'sum', in the pinned program and in every row, IS THE sha256 OF THE DUMP (.gsa) THAT YtbdiodibeiohlaaProg.lean LOADS. Nothing in Lean hashes anything: it is a label: what it is worth is what the hold of that sum in a sandbox is worth. -/
noncomputable def Try.pinned : Pinned := { name := "ytbdiodibeiohlaa", sum := "6dfe41f420d828714c393e4e93f40897e7bae5247de01cf1731410de9fda25d3", checked := Try.checked }
namespace Rows
def none {H : Type} : Left H := { results := [], args := [] }

/-- 'sealwrightlaw3.WireUint': WHATEVER THE INPUT: true; the input reads as it did. -/
def wireUintSpec : ChangeSpec := { name := "wireUint", fn := fun _ => fun
  | [d1, d2, d3] => { results := [.lit (.bool true)], args := [d1, d2, d3] }
  | _ => none }
def wireUintRow : OpenClaim := { program := "ytbdiodibeiohlaa", sum := "6dfe41f420d828714c393e4e93f40897e7bae5247de01cf1731410de9fda25d3", func := "sealwright/sealwrightlaw3.WireUint", spec := "wireUint", apart := false }
def WireUintSaid : Prop := wireUintRow.holds Try.pinned (OpenSpec.ofChange wireUintSpec)

/-- ITS FALSE NEIGHBOUR: 'it returns false'. Refute it at one input. -/
def wireUintWrong : ChangeSpec := { name := "wireUint", fn := fun _ => fun
  | [d1, d2, d3] => { results := [.lit (.bool false)], args := [d1, d2, d3] }
  | _ => none }
def WireUintWrongFalsely : Prop := wireUintRow.holds Try.pinned (OpenSpec.ofChange wireUintWrong)

/-- 'sealwrightlaw3.WireLarge': WHATEVER THE INPUT: true; the input reads as it did. -/
def wireLargeSpec : ChangeSpec := { name := "wireLarge", fn := fun _ => fun
  | [d] => { results := [.lit (.bool true)], args := [d] }
  | _ => none }
def wireLargeRow : OpenClaim := { program := "ytbdiodibeiohlaa", sum := "6dfe41f420d828714c393e4e93f40897e7bae5247de01cf1731410de9fda25d3", func := "sealwright/sealwrightlaw3.WireLarge", spec := "wireLarge", apart := false }
def WireLargeSaid : Prop := wireLargeRow.holds Try.pinned (OpenSpec.ofChange wireLargeSpec)

/-- ITS FALSE NEIGHBOUR: 'it returns false'. Refute it at one input. -/
def wireLargeWrong : ChangeSpec := { name := "wireLarge", fn := fun _ => fun
  | [d] => { results := [.lit (.bool false)], args := [d] }
  | _ => none }
def WireLargeWrongFalsely : Prop := wireLargeRow.holds Try.pinned (OpenSpec.ofChange wireLargeWrong)

/-- 'sealwrightlaw3.WireBlob': WHATEVER THE INPUT: true; the input reads as it did. -/
def wireBlobSpec : ChangeSpec := { name := "wireBlob", fn := fun _ => fun
  | [d1, d2, d3] => { results := [.lit (.bool true)], args := [d1, d2, d3] }
  | _ => none }
def wireBlobRow : OpenClaim := { program := "ytbdiodibeiohlaa", sum := "6dfe41f420d828714c393e4e93f40897e7bae5247de01cf1731410de9fda25d3", func := "sealwright/sealwrightlaw3.WireBlob", spec := "wireBlob", apart := false }
def WireBlobSaid : Prop := wireBlobRow.holds Try.pinned (OpenSpec.ofChange wireBlobSpec)

/-- ITS FALSE NEIGHBOUR: 'it returns false'. Refute it at one input. -/
def wireBlobWrong : ChangeSpec := { name := "wireBlob", fn := fun _ => fun
  | [d1, d2, d3] => { results := [.lit (.bool false)], args := [d1, d2, d3] }
  | _ => none }
def WireBlobWrongFalsely : Prop := wireBlobRow.holds Try.pinned (OpenSpec.ofChange wireBlobWrong)

/-- 'sealwrightlaw3.WireTrip': WHATEVER THE INPUT: true; the input reads as it did. -/
def wireTripSpec : ChangeSpec := { name := "wireTrip", fn := fun _ => fun
  | [d1, d2, d3] => { results := [.lit (.bool true)], args := [d1, d2, d3] }
  | _ => none }
def wireTripRow : OpenClaim := { program := "ytbdiodibeiohlaa", sum := "6dfe41f420d828714c393e4e93f40897e7bae5247de01cf1731410de9fda25d3", func := "sealwright/sealwrightlaw3.WireTrip", spec := "wireTrip", unfollowed := true, recurses := true, apart := false }
def WireTripSaid : Prop := wireTripRow.holds Try.pinned (OpenSpec.ofChange wireTripSpec)

/-- ITS FALSE NEIGHBOUR: 'it returns false'. Refute it at one input. -/
def wireTripWrong : ChangeSpec := { name := "wireTrip", fn := fun _ => fun
  | [d1, d2, d3] => { results := [.lit (.bool false)], args := [d1, d2, d3] }
  | _ => none }
def WireTripWrongFalsely : Prop := wireTripRow.holds Try.pinned (OpenSpec.ofChange wireTripWrong)

/-- 'sealwrightlaw3.WireReads': WHATEVER THE INPUT: true; the input reads as it did. -/
def wireReadsSpec : ChangeSpec := { name := "wireReads", fn := fun _ => fun
  | [d1, d2, d3] => { results := [.lit (.bool true)], args := [d1, d2, d3] }
  | _ => none }
def wireReadsRow : OpenClaim := { program := "ytbdiodibeiohlaa", sum := "6dfe41f420d828714c393e4e93f40897e7bae5247de01cf1731410de9fda25d3", func := "sealwright/sealwrightlaw3.WireReads", spec := "wireReads", unfollowed := true, recurses := true, apart := false }
def WireReadsSaid : Prop := wireReadsRow.holds Try.pinned (OpenSpec.ofChange wireReadsSpec)

/-- ITS FALSE NEIGHBOUR: 'it returns false'. Refute it at one input. -/
def wireReadsWrong : ChangeSpec := { name := "wireReads", fn := fun _ => fun
  | [d1, d2, d3] => { results := [.lit (.bool false)], args := [d1, d2, d3] }
  | _ => none }
def WireReadsWrongFalsely : Prop := wireReadsRow.holds Try.pinned (OpenSpec.ofChange wireReadsWrong)

/-- 'sealwrightlaw3.WireSticky': WHATEVER THE INPUT: true; the input reads as it did. -/
def wireStickySpec : ChangeSpec := { name := "wireSticky", fn := fun _ => fun
  | [d1, d2, d3] => { results := [.lit (.bool true)], args := [d1, d2, d3] }
  | _ => none }
def wireStickyRow : OpenClaim := { program := "ytbdiodibeiohlaa", sum := "6dfe41f420d828714c393e4e93f40897e7bae5247de01cf1731410de9fda25d3", func := "sealwright/sealwrightlaw3.WireSticky", spec := "wireSticky", unfollowed := true, recurses := true, apart := false }
def WireStickySaid : Prop := wireStickyRow.holds Try.pinned (OpenSpec.ofChange wireStickySpec)

/-- ITS FALSE NEIGHBOUR: 'it returns false'. Refute it at one input. -/
def wireStickyWrong : ChangeSpec := { name := "wireSticky", fn := fun _ => fun
  | [d1, d2, d3] => { results := [.lit (.bool false)], args := [d1, d2, d3] }
  | _ => none }
def WireStickyWrongFalsely : Prop := wireStickyRow.holds Try.pinned (OpenSpec.ofChange wireStickyWrong)

/- THE SECOND FORM. 'bulk': how many values and letters a reading holds, each counted each time it is reached (what is shared counts as often as it is met; a slice's spare places count too). A statement '..UptoSaid' is the law's where the arguments, and the package variables that the reading takes, are together of bulk at most 1048576: NARROWER than '..Said'. Prove '..Said' where nothing that the law and all that it calls make is longer than what came in: it says more and counts as full. Else prove '..UptoSaid'. A law counts once. -/
mutual
def uptoBulk {H : Type} : DataW H → Nat
  | .lit (.string bytes) => bytes.length + 1
  | .lit _ => 1
  | .nil => 1
  | .ptr d => uptoBulk d + 1
  | .slice elems spare => uptoBulkAll elems + uptoBulkAll spare + 1
  | .agg parts => uptoBulkAll parts + 1
  | .iface _ d => uptoBulk d + 1
  | .map entries => uptoBulkEntries entries + 1
  | .held _ => 1
def uptoBulkAll {H : Type} : List (DataW H) → Nat
  | [] => 0
  | d :: r => uptoBulk d + uptoBulkAll r
def uptoBulkEntries {H : Type} : List (Lit × DataW H) → Nat
  | [] => 0
  | x :: r => uptoBulkEntry x + uptoBulkEntries r
def uptoBulkEntry {H : Type} : Lit × DataW H → Nat
  | (.string bytes, d) => bytes.length + uptoBulk d + 1
  | (_, d) => uptoBulk d + 1
 end
def uptoSmall : (H : Type) → List (DataW H) → Bool := fun _ ds => decide (uptoBulkAll ds ≤ 1048576)
def OpenSpec.upto (s : _root_.Go.ChangeSpec) : _root_.Go.OpenSpec := { _root_.Go.OpenSpec.ofChange s with cond := some uptoSmall }

/-- 'sealwrightlaw3.WireUint', WHERE WHAT IT READS IS OF BULK AT MOST 1048576: true; the input reads as it did. -/
def wireUintUptoRow : OpenClaim := { program := "ytbdiodibeiohlaa", sum := "6dfe41f420d828714c393e4e93f40897e7bae5247de01cf1731410de9fda25d3", func := "sealwright/sealwrightlaw3.WireUint", spec := "wireUint", apart := false, narrowed := true }
def WireUintUptoSaid : Prop := wireUintUptoRow.holds Try.pinned (OpenSpec.upto wireUintSpec)

/-- 'sealwrightlaw3.WireLarge', WHERE WHAT IT READS IS OF BULK AT MOST 1048576: true; the input reads as it did. -/
def wireLargeUptoRow : OpenClaim := { program := "ytbdiodibeiohlaa", sum := "6dfe41f420d828714c393e4e93f40897e7bae5247de01cf1731410de9fda25d3", func := "sealwright/sealwrightlaw3.WireLarge", spec := "wireLarge", apart := false, narrowed := true }
def WireLargeUptoSaid : Prop := wireLargeUptoRow.holds Try.pinned (OpenSpec.upto wireLargeSpec)

/-- 'sealwrightlaw3.WireBlob', WHERE WHAT IT READS IS OF BULK AT MOST 1048576: true; the input reads as it did. -/
def wireBlobUptoRow : OpenClaim := { program := "ytbdiodibeiohlaa", sum := "6dfe41f420d828714c393e4e93f40897e7bae5247de01cf1731410de9fda25d3", func := "sealwright/sealwrightlaw3.WireBlob", spec := "wireBlob", apart := false, narrowed := true }
def WireBlobUptoSaid : Prop := wireBlobUptoRow.holds Try.pinned (OpenSpec.upto wireBlobSpec)

/-- 'sealwrightlaw3.WireTrip', WHERE WHAT IT READS IS OF BULK AT MOST 1048576: true; the input reads as it did. -/
def wireTripUptoRow : OpenClaim := { program := "ytbdiodibeiohlaa", sum := "6dfe41f420d828714c393e4e93f40897e7bae5247de01cf1731410de9fda25d3", func := "sealwright/sealwrightlaw3.WireTrip", spec := "wireTrip", unfollowed := true, recurses := true, apart := false, narrowed := true }
def WireTripUptoSaid : Prop := wireTripUptoRow.holds Try.pinned (OpenSpec.upto wireTripSpec)

/-- 'sealwrightlaw3.WireReads', WHERE WHAT IT READS IS OF BULK AT MOST 1048576: true; the input reads as it did. -/
def wireReadsUptoRow : OpenClaim := { program := "ytbdiodibeiohlaa", sum := "6dfe41f420d828714c393e4e93f40897e7bae5247de01cf1731410de9fda25d3", func := "sealwright/sealwrightlaw3.WireReads", spec := "wireReads", unfollowed := true, recurses := true, apart := false, narrowed := true }
def WireReadsUptoSaid : Prop := wireReadsUptoRow.holds Try.pinned (OpenSpec.upto wireReadsSpec)

/-- 'sealwrightlaw3.WireSticky', WHERE WHAT IT READS IS OF BULK AT MOST 1048576: true; the input reads as it did. -/
def wireStickyUptoRow : OpenClaim := { program := "ytbdiodibeiohlaa", sum := "6dfe41f420d828714c393e4e93f40897e7bae5247de01cf1731410de9fda25d3", func := "sealwright/sealwrightlaw3.WireSticky", spec := "wireSticky", unfollowed := true, recurses := true, apart := false, narrowed := true }
def WireStickyUptoSaid : Prop := wireStickyUptoRow.holds Try.pinned (OpenSpec.upto wireStickySpec)

end Rows
end Go.Proofs.Ytbdiodibeiohlaa
