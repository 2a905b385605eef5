/-
  NARROWER THAN 'FOR EVERY INPUT', by the rows' own cells (each row's printed sentence says how): CommandShape: laid · CommandCheck: laid · CommandTrip: laid · CommandDecode: laid · CommandLong: laid · CommandReads: laid · CommandResponse: laid.
  DERIVED. THE GIVEN ROWS OF THIS SEAT. 7 by the template 'for every input the law returns true; each argument reads behind the call as it read before'; 0 by the template 'total and deterministic' (their statements: YtaekpiejdgahfaaDoorTotals.lean).
  GIVEN WITH THE SEED: the statements are not yours to turn. If you find one false, say at which input.
  Laid BY PROGRAM, IN A SANDBOX (cutbox-rows.mjs): the forced cells as the released guide's own fill.sh prints them over the translation 0cbbba1b5ef10f76… (all of the seat's roots in one cut). By AI agents, Wed Nov 11 2026. No macro, syntax, notation, axiom, sorry.
-/
import Derived.Test.YtaekpiejdgahfaaDoorChecked
import GoSem.Claim
import GoSem.ClaimJoined
import GoSem.ClaimMapViews
import Derived.JoinedTies
import Derived.KernelRfl
namespace Go.Proofs.YtaekpiejdgahfaaDoor
/- THE CELL 'sum', in the pinned program and in every row, IS THE sha256 OF THE DUMP (.gsa) THAT YtaekpiejdgahfaaDoorProg.lean LOADS. Nothing in Lean hashes anything: it is a label: what it is worth is what the hold of that sum in a sandbox is worth. -/
noncomputable def Tryd.pinned : Pinned := { name := "ytaekpiejdgahfaadoor", sum := "0cbbba1b5ef10f7659edd10d717f318bbab7988a37ebb4a6f9b76113fa3ef5eb", checked := Tryd.checked }
namespace Rows
def none {H : Type} : Left H := { results := [], args := [] }

/- WHAT THE LISTED PACKAGE-LEVEL VARIABLES READ AS WHEN THE CALL BEGINS. Each datum BY PROGRAM (the guide's laid-datum.mjs) off the statement by which the dump's own 'gosem.cut.vars' lays the variable. In a bare row this is a premise. The card (YtaekpiejdgahfaaDoorCards.lean) ties it to the program's text. -/
def laid_sealwright_command_magic {H : Type} : DataW H := .agg [.lit (.int .u8 83), .lit (.int .u8 87)]
def laid_sealwright_command_forms {H : Type} : DataW H := .agg [.agg [.lit (.int .i64 1), .lit (.int .i64 0), .lit (.int .i64 0), .lit (.int .i64 1), .lit (.int .i64 0)], .agg [.lit (.int .i64 2), .lit (.int .i64 0), .lit (.int .i64 0), .lit (.int .i64 1), .lit (.int .i64 0)], .agg [.lit (.int .i64 4), .lit (.int .i64 0), .lit (.int .i64 0), .lit (.int .i64 0), .lit (.int .i64 0)], .agg [.lit (.int .i64 5), .lit (.int .i64 0), .lit (.int .i64 0), .lit (.int .i64 2), .lit (.int .i64 0)], .agg [.lit (.int .i64 6), .lit (.int .i64 0), .lit (.int .i64 0), .lit (.int .i64 1), .lit (.int .i64 2)], .agg [.lit (.int .i64 7), .lit (.int .i64 0), .lit (.int .i64 0), .lit (.int .i64 1), .lit (.int .i64 1)], .agg [.lit (.int .i64 8), .lit (.int .i64 0), .lit (.int .i64 0), .lit (.int .i64 1), .lit (.int .i64 0)], .agg [.lit (.int .i64 9), .lit (.int .i64 1), .lit (.int .i64 1), .lit (.int .i64 3), .lit (.int .i64 3)], .agg [.lit (.int .i64 10), .lit (.int .i64 1), .lit (.int .i64 1), .lit (.int .i64 3), .lit (.int .i64 3)], .agg [.lit (.int .i64 11), .lit (.int .i64 1), .lit (.int .i64 1), .lit (.int .i64 0), .lit (.int .i64 2)], .agg [.lit (.int .i64 12), .lit (.int .i64 0), .lit (.int .i64 0), .lit (.int .i64 1), .lit (.int .i64 0)], .agg [.lit (.int .i64 13), .lit (.int .i64 1), .lit (.int .i64 1), .lit (.int .i64 0), .lit (.int .i64 0)], .agg [.lit (.int .i64 14), .lit (.int .i64 1), .lit (.int .i64 1), .lit (.int .i64 0), .lit (.int .i64 1)], .agg [.lit (.int .i64 15), .lit (.int .i64 1), .lit (.int .i64 1), .lit (.int .i64 2), .lit (.int .i64 1)], .agg [.lit (.int .i64 16), .lit (.int .i64 0), .lit (.int .i64 0), .lit (.int .i64 1), .lit (.int .i64 0)], .agg [.lit (.int .i64 17), .lit (.int .i64 0), .lit (.int .i64 0), .lit (.int .i64 6), .lit (.int .i64 (-1))], .agg [.lit (.int .i64 18), .lit (.int .i64 1), .lit (.int .i64 1), .lit (.int .i64 2), .lit (.int .i64 1)], .agg [.lit (.int .i64 19), .lit (.int .i64 0), .lit (.int .i64 0), .lit (.int .i64 1), .lit (.int .i64 3)], .agg [.lit (.int .i64 20), .lit (.int .i64 0), .lit (.int .i64 0), .lit (.int .i64 1), .lit (.int .i64 0)], .agg [.lit (.int .i64 21), .lit (.int .i64 1), .lit (.int .i64 1), .lit (.int .i64 4), .lit (.int .i64 2)], .agg [.lit (.int .i64 22), .lit (.int .i64 1), .lit (.int .i64 1), .lit (.int .i64 1), .lit (.int .i64 0)], .agg [.lit (.int .i64 23), .lit (.int .i64 2), .lit (.int .i64 1), .lit (.int .i64 1), .lit (.int .i64 1)], .agg [.lit (.int .i64 24), .lit (.int .i64 2), .lit (.int .i64 1), .lit (.int .i64 2), .lit (.int .i64 0)], .agg [.lit (.int .i64 25), .lit (.int .i64 2), .lit (.int .i64 1), .lit (.int .i64 0), .lit (.int .i64 0)], .agg [.lit (.int .i64 26), .lit (.int .i64 2), .lit (.int .i64 1), .lit (.int .i64 0), .lit (.int .i64 1)], .agg [.lit (.int .i64 27), .lit (.int .i64 2), .lit (.int .i64 1), .lit (.int .i64 0), .lit (.int .i64 1)], .agg [.lit (.int .i64 28), .lit (.int .i64 2), .lit (.int .i64 1), .lit (.int .i64 0), .lit (.int .i64 0)], .agg [.lit (.int .i64 29), .lit (.int .i64 2), .lit (.int .i64 1), .lit (.int .i64 0), .lit (.int .i64 0)], .agg [.lit (.int .i64 30), .lit (.int .i64 1), .lit (.int .i64 1), .lit (.int .i64 0), .lit (.int .i64 1)], .agg [.lit (.int .i64 31), .lit (.int .i64 1), .lit (.int .i64 1), .lit (.int .i64 0), .lit (.int .i64 0)], .agg [.lit (.int .i64 32), .lit (.int .i64 1), .lit (.int .i64 1), .lit (.int .i64 0), .lit (.int .i64 0)], .agg [.lit (.int .i64 33), .lit (.int .i64 1), .lit (.int .i64 1), .lit (.int .i64 3), .lit (.int .i64 0)]]

/-- 'sealwrightlaw22.CommandShape': WHATEVER THE INPUT: true; the input reads as it did. -/
def commandShapeSpec : ChangeSpec := { name := "commandShape", fn := fun _ => fun
  | [d] => { results := [.lit (.bool true)], args := [d] }
  | _ => none }
def commandShapeRow : OpenClaim := { program := "ytaekpiejdgahfaadoor", sum := "0cbbba1b5ef10f7659edd10d717f318bbab7988a37ebb4a6f9b76113fa3ef5eb", func := "sealwright/sealwrightlaw22.CommandShape", spec := "commandShape", unfollowed := true, recurses := true, named := ["sealwright/command.forms", "sealwright/command.magic"], apart := false, laid := [("sealwright/command.magic", laid_sealwright_command_magic), ("sealwright/command.forms", laid_sealwright_command_forms)] }
def CommandShapeSaid : Prop := commandShapeRow.holds Tryd.pinned (OpenSpec.ofChange commandShapeSpec)

/-- ITS FALSE NEIGHBOUR: 'it returns false'. Refute it at one input. -/
def commandShapeWrong : ChangeSpec := { name := "commandShape", fn := fun _ => fun
  | [d] => { results := [.lit (.bool false)], args := [d] }
  | _ => none }
def CommandShapeWrongFalsely : Prop := commandShapeRow.holds Tryd.pinned (OpenSpec.ofChange commandShapeWrong)

/-- 'sealwrightlaw22.CommandCheck': WHATEVER THE INPUT: true; the input reads as it did. -/
def commandCheckSpec : ChangeSpec := { name := "commandCheck", fn := fun _ => fun
  | [d1, d2, d3, d4] => { results := [.lit (.bool true)], args := [d1, d2, d3, d4] }
  | _ => none }
def commandCheckRow : OpenClaim := { program := "ytaekpiejdgahfaadoor", sum := "0cbbba1b5ef10f7659edd10d717f318bbab7988a37ebb4a6f9b76113fa3ef5eb", func := "sealwright/sealwrightlaw22.CommandCheck", spec := "commandCheck", unfollowed := true, recurses := true, named := ["sealwright/command.forms", "sealwright/command.magic"], apart := false, laid := [("sealwright/command.magic", laid_sealwright_command_magic), ("sealwright/command.forms", laid_sealwright_command_forms)] }
def CommandCheckSaid : Prop := commandCheckRow.holds Tryd.pinned (OpenSpec.ofChange commandCheckSpec)

/-- ITS FALSE NEIGHBOUR: 'it returns false'. Refute it at one input. -/
def commandCheckWrong : ChangeSpec := { name := "commandCheck", fn := fun _ => fun
  | [d1, d2, d3, d4] => { results := [.lit (.bool false)], args := [d1, d2, d3, d4] }
  | _ => none }
def CommandCheckWrongFalsely : Prop := commandCheckRow.holds Tryd.pinned (OpenSpec.ofChange commandCheckWrong)

/-- 'sealwrightlaw22.CommandTrip': WHATEVER THE INPUT: true; the input reads as it did. -/
def commandTripSpec : ChangeSpec := { name := "commandTrip", fn := fun _ => fun
  | [d1, d2] => { results := [.lit (.bool true)], args := [d1, d2] }
  | _ => none }
def commandTripRow : OpenClaim := { program := "ytaekpiejdgahfaadoor", sum := "0cbbba1b5ef10f7659edd10d717f318bbab7988a37ebb4a6f9b76113fa3ef5eb", func := "sealwright/sealwrightlaw22.CommandTrip", spec := "commandTrip", unfollowed := true, recurses := true, named := ["sealwright/command.forms", "sealwright/command.magic"], apart := false, laid := [("sealwright/command.magic", laid_sealwright_command_magic), ("sealwright/command.forms", laid_sealwright_command_forms)] }
def CommandTripSaid : Prop := commandTripRow.holds Tryd.pinned (OpenSpec.ofChange commandTripSpec)

/-- ITS FALSE NEIGHBOUR: 'it returns false'. Refute it at one input. -/
def commandTripWrong : ChangeSpec := { name := "commandTrip", fn := fun _ => fun
  | [d1, d2] => { results := [.lit (.bool false)], args := [d1, d2] }
  | _ => none }
def CommandTripWrongFalsely : Prop := commandTripRow.holds Tryd.pinned (OpenSpec.ofChange commandTripWrong)

/-- 'sealwrightlaw22.CommandDecode': WHATEVER THE INPUT: true; the input reads as it did. -/
def commandDecodeSpec : ChangeSpec := { name := "commandDecode", fn := fun _ => fun
  | [d1, d2, d3, d4, d5, d6, d7] => { results := [.lit (.bool true)], args := [d1, d2, d3, d4, d5, d6, d7] }
  | _ => none }
def commandDecodeRow : OpenClaim := { program := "ytaekpiejdgahfaadoor", sum := "0cbbba1b5ef10f7659edd10d717f318bbab7988a37ebb4a6f9b76113fa3ef5eb", func := "sealwright/sealwrightlaw22.CommandDecode", spec := "commandDecode", unfollowed := true, recurses := true, named := ["sealwright/command.forms", "sealwright/command.magic"], apart := false, laid := [("sealwright/command.magic", laid_sealwright_command_magic), ("sealwright/command.forms", laid_sealwright_command_forms)] }
def CommandDecodeSaid : Prop := commandDecodeRow.holds Tryd.pinned (OpenSpec.ofChange commandDecodeSpec)

/-- ITS FALSE NEIGHBOUR: 'it returns false'. Refute it at one input. -/
def commandDecodeWrong : ChangeSpec := { name := "commandDecode", fn := fun _ => fun
  | [d1, d2, d3, d4, d5, d6, d7] => { results := [.lit (.bool false)], args := [d1, d2, d3, d4, d5, d6, d7] }
  | _ => none }
def CommandDecodeWrongFalsely : Prop := commandDecodeRow.holds Tryd.pinned (OpenSpec.ofChange commandDecodeWrong)

/-- 'sealwrightlaw22.CommandLong': WHATEVER THE INPUT: true; the input reads as it did. -/
def commandLongSpec : ChangeSpec := { name := "commandLong", fn := fun _ => fun
  | [d1, d2] => { results := [.lit (.bool true)], args := [d1, d2] }
  | _ => none }
def commandLongRow : OpenClaim := { program := "ytaekpiejdgahfaadoor", sum := "0cbbba1b5ef10f7659edd10d717f318bbab7988a37ebb4a6f9b76113fa3ef5eb", func := "sealwright/sealwrightlaw22.CommandLong", spec := "commandLong", unfollowed := true, recurses := true, named := ["sealwright/command.forms", "sealwright/command.magic"], apart := false, laid := [("sealwright/command.magic", laid_sealwright_command_magic), ("sealwright/command.forms", laid_sealwright_command_forms)] }
def CommandLongSaid : Prop := commandLongRow.holds Tryd.pinned (OpenSpec.ofChange commandLongSpec)

/-- ITS FALSE NEIGHBOUR: 'it returns false'. Refute it at one input. -/
def commandLongWrong : ChangeSpec := { name := "commandLong", fn := fun _ => fun
  | [d1, d2] => { results := [.lit (.bool false)], args := [d1, d2] }
  | _ => none }
def CommandLongWrongFalsely : Prop := commandLongRow.holds Tryd.pinned (OpenSpec.ofChange commandLongWrong)

/-- 'sealwrightlaw22.CommandReads': WHATEVER THE INPUT: true; the input reads as it did. -/
def commandReadsSpec : ChangeSpec := { name := "commandReads", fn := fun _ => fun
  | [d1, d2, d3, d4, d5, d6, d7, d8] => { results := [.lit (.bool true)], args := [d1, d2, d3, d4, d5, d6, d7, d8] }
  | _ => none }
def commandReadsRow : OpenClaim := { program := "ytaekpiejdgahfaadoor", sum := "0cbbba1b5ef10f7659edd10d717f318bbab7988a37ebb4a6f9b76113fa3ef5eb", func := "sealwright/sealwrightlaw22.CommandReads", spec := "commandReads", unfollowed := true, recurses := true, named := ["sealwright/command.forms", "sealwright/command.magic"], apart := false, laid := [("sealwright/command.magic", laid_sealwright_command_magic), ("sealwright/command.forms", laid_sealwright_command_forms)] }
def CommandReadsSaid : Prop := commandReadsRow.holds Tryd.pinned (OpenSpec.ofChange commandReadsSpec)

/-- ITS FALSE NEIGHBOUR: 'it returns false'. Refute it at one input. -/
def commandReadsWrong : ChangeSpec := { name := "commandReads", fn := fun _ => fun
  | [d1, d2, d3, d4, d5, d6, d7, d8] => { results := [.lit (.bool false)], args := [d1, d2, d3, d4, d5, d6, d7, d8] }
  | _ => none }
def CommandReadsWrongFalsely : Prop := commandReadsRow.holds Tryd.pinned (OpenSpec.ofChange commandReadsWrong)

/-- 'sealwrightlaw22.CommandResponse': WHATEVER THE INPUT: true; the input reads as it did. -/
def commandResponseSpec : ChangeSpec := { name := "commandResponse", fn := fun _ => fun
  | [d1, d2, d3, d4] => { results := [.lit (.bool true)], args := [d1, d2, d3, d4] }
  | _ => none }
def commandResponseRow : OpenClaim := { program := "ytaekpiejdgahfaadoor", sum := "0cbbba1b5ef10f7659edd10d717f318bbab7988a37ebb4a6f9b76113fa3ef5eb", func := "sealwright/sealwrightlaw22.CommandResponse", spec := "commandResponse", unfollowed := true, recurses := true, named := ["sealwright/command.forms", "sealwright/command.magic"], apart := false, laid := [("sealwright/command.magic", laid_sealwright_command_magic), ("sealwright/command.forms", laid_sealwright_command_forms)] }
def CommandResponseSaid : Prop := commandResponseRow.holds Tryd.pinned (OpenSpec.ofChange commandResponseSpec)

/-- ITS FALSE NEIGHBOUR: 'it returns false'. Refute it at one input. -/
def commandResponseWrong : ChangeSpec := { name := "commandResponse", fn := fun _ => fun
  | [d1, d2, d3, d4] => { results := [.lit (.bool false)], args := [d1, d2, d3, d4] }
  | _ => none }
def CommandResponseWrongFalsely : Prop := commandResponseRow.holds Tryd.pinned (OpenSpec.ofChange commandResponseWrong)

/- THE SECOND FORM. 'bulk': how many values and letters a reading holds, each counted each time it is reached (what is shared counts as often as it is met; a slice's spare places count too). A statement '..UptoSaid' is the law's where the arguments, and the package variables that the reading takes, are together of bulk at most 1048576: NARROWER than '..Said'. Prove '..Said' where nothing that the law and all that it calls make is longer than what came in: it says more and counts as full. Else prove '..UptoSaid'. A law counts once. -/
mutual
def uptoBulk {H : Type} : DataW H → Nat
  | .lit (.string bytes) => bytes.length + 1
  | .lit _ => 1
  | .nil => 1
  | .ptr d => uptoBulk d + 1
  | .slice elems spare => uptoBulkAll elems + uptoBulkAll spare + 1
  | .agg parts => uptoBulkAll parts + 1
  | .iface _ d => uptoBulk d + 1
  | .map entries => uptoBulkEntries entries + 1
  | .held _ => 1
def uptoBulkAll {H : Type} : List (DataW H) → Nat
  | [] => 0
  | d :: r => uptoBulk d + uptoBulkAll r
def uptoBulkEntries {H : Type} : List (Lit × DataW H) → Nat
  | [] => 0
  | x :: r => uptoBulkEntry x + uptoBulkEntries r
def uptoBulkEntry {H : Type} : Lit × DataW H → Nat
  | (.string bytes, d) => bytes.length + uptoBulk d + 1
  | (_, d) => uptoBulk d + 1
 end
def uptoSmall : (H : Type) → List (DataW H) → Bool := fun _ ds => decide (uptoBulkAll ds ≤ 1048576)
def OpenSpec.upto (s : _root_.Go.ChangeSpec) : _root_.Go.OpenSpec := { _root_.Go.OpenSpec.ofChange s with cond := some uptoSmall }

/-- 'sealwrightlaw22.CommandShape', WHERE WHAT IT READS IS OF BULK AT MOST 1048576: true; the input reads as it did. -/
def commandShapeUptoRow : OpenClaim := { program := "ytaekpiejdgahfaadoor", sum := "0cbbba1b5ef10f7659edd10d717f318bbab7988a37ebb4a6f9b76113fa3ef5eb", func := "sealwright/sealwrightlaw22.CommandShape", spec := "commandShape", unfollowed := true, recurses := true, named := ["sealwright/command.forms", "sealwright/command.magic"], apart := false, laid := [("sealwright/command.magic", laid_sealwright_command_magic), ("sealwright/command.forms", laid_sealwright_command_forms)], narrowed := true }
def CommandShapeUptoSaid : Prop := commandShapeUptoRow.holds Tryd.pinned (OpenSpec.upto commandShapeSpec)

/-- 'sealwrightlaw22.CommandCheck', WHERE WHAT IT READS IS OF BULK AT MOST 1048576: true; the input reads as it did. -/
def commandCheckUptoRow : OpenClaim := { program := "ytaekpiejdgahfaadoor", sum := "0cbbba1b5ef10f7659edd10d717f318bbab7988a37ebb4a6f9b76113fa3ef5eb", func := "sealwright/sealwrightlaw22.CommandCheck", spec := "commandCheck", unfollowed := true, recurses := true, named := ["sealwright/command.forms", "sealwright/command.magic"], apart := false, laid := [("sealwright/command.magic", laid_sealwright_command_magic), ("sealwright/command.forms", laid_sealwright_command_forms)], narrowed := true }
def CommandCheckUptoSaid : Prop := commandCheckUptoRow.holds Tryd.pinned (OpenSpec.upto commandCheckSpec)

/-- 'sealwrightlaw22.CommandTrip', WHERE WHAT IT READS IS OF BULK AT MOST 1048576: true; the input reads as it did. -/
def commandTripUptoRow : OpenClaim := { program := "ytaekpiejdgahfaadoor", sum := "0cbbba1b5ef10f7659edd10d717f318bbab7988a37ebb4a6f9b76113fa3ef5eb", func := "sealwright/sealwrightlaw22.CommandTrip", spec := "commandTrip", unfollowed := true, recurses := true, named := ["sealwright/command.forms", "sealwright/command.magic"], apart := false, laid := [("sealwright/command.magic", laid_sealwright_command_magic), ("sealwright/command.forms", laid_sealwright_command_forms)], narrowed := true }
def CommandTripUptoSaid : Prop := commandTripUptoRow.holds Tryd.pinned (OpenSpec.upto commandTripSpec)

/-- 'sealwrightlaw22.CommandDecode', WHERE WHAT IT READS IS OF BULK AT MOST 1048576: true; the input reads as it did. -/
def commandDecodeUptoRow : OpenClaim := { program := "ytaekpiejdgahfaadoor", sum := "0cbbba1b5ef10f7659edd10d717f318bbab7988a37ebb4a6f9b76113fa3ef5eb", func := "sealwright/sealwrightlaw22.CommandDecode", spec := "commandDecode", unfollowed := true, recurses := true, named := ["sealwright/command.forms", "sealwright/command.magic"], apart := false, laid := [("sealwright/command.magic", laid_sealwright_command_magic), ("sealwright/command.forms", laid_sealwright_command_forms)], narrowed := true }
def CommandDecodeUptoSaid : Prop := commandDecodeUptoRow.holds Tryd.pinned (OpenSpec.upto commandDecodeSpec)

/-- 'sealwrightlaw22.CommandLong', WHERE WHAT IT READS IS OF BULK AT MOST 1048576: true; the input reads as it did. -/
def commandLongUptoRow : OpenClaim := { program := "ytaekpiejdgahfaadoor", sum := "0cbbba1b5ef10f7659edd10d717f318bbab7988a37ebb4a6f9b76113fa3ef5eb", func := "sealwright/sealwrightlaw22.CommandLong", spec := "commandLong", unfollowed := true, recurses := true, named := ["sealwright/command.forms", "sealwright/command.magic"], apart := false, laid := [("sealwright/command.magic", laid_sealwright_command_magic), ("sealwright/command.forms", laid_sealwright_command_forms)], narrowed := true }
def CommandLongUptoSaid : Prop := commandLongUptoRow.holds Tryd.pinned (OpenSpec.upto commandLongSpec)

/-- 'sealwrightlaw22.CommandReads', WHERE WHAT IT READS IS OF BULK AT MOST 1048576: true; the input reads as it did. -/
def commandReadsUptoRow : OpenClaim := { program := "ytaekpiejdgahfaadoor", sum := "0cbbba1b5ef10f7659edd10d717f318bbab7988a37ebb4a6f9b76113fa3ef5eb", func := "sealwright/sealwrightlaw22.CommandReads", spec := "commandReads", unfollowed := true, recurses := true, named := ["sealwright/command.forms", "sealwright/command.magic"], apart := false, laid := [("sealwright/command.magic", laid_sealwright_command_magic), ("sealwright/command.forms", laid_sealwright_command_forms)], narrowed := true }
def CommandReadsUptoSaid : Prop := commandReadsUptoRow.holds Tryd.pinned (OpenSpec.upto commandReadsSpec)

/-- 'sealwrightlaw22.CommandResponse', WHERE WHAT IT READS IS OF BULK AT MOST 1048576: true; the input reads as it did. -/
def commandResponseUptoRow : OpenClaim := { program := "ytaekpiejdgahfaadoor", sum := "0cbbba1b5ef10f7659edd10d717f318bbab7988a37ebb4a6f9b76113fa3ef5eb", func := "sealwright/sealwrightlaw22.CommandResponse", spec := "commandResponse", unfollowed := true, recurses := true, named := ["sealwright/command.forms", "sealwright/command.magic"], apart := false, laid := [("sealwright/command.magic", laid_sealwright_command_magic), ("sealwright/command.forms", laid_sealwright_command_forms)], narrowed := true }
def CommandResponseUptoSaid : Prop := commandResponseUptoRow.holds Tryd.pinned (OpenSpec.upto commandResponseSpec)

end Rows
end Go.Proofs.YtaekpiejdgahfaaDoor
