/-
  No cell of these rows narrows 'for every input' (looked for: loops, veiled, ifaces, maps, wideKeys, modest, calm, conditions, laid).
  DERIVED. THE GIVEN ROWS OF THIS SEAT. 6 by the template 'for every input the law returns true; each argument reads behind the call as it read before'; 0 by the template 'total and deterministic' (their statements: YthbpddblejnjjaaTotals.lean).
  GIVEN WITH THE SEED: the statements are not yours to turn. If you find one false, say at which input.
  Laid BY PROGRAM, IN A SANDBOX (cutbox-rows.mjs): the forced cells as the released guide's own fill.sh prints them over the translation 6b56b498c8c0c97d… (all of the seat's roots in one cut). By AI agents, Wed Nov 11 2026. No macro, syntax, notation, axiom, sorry.
-/
import Derived.Test.YthbpddblejnjjaaChecked
import GoSem.Claim
import GoSem.ClaimJoined
import GoSem.ClaimMapViews
import Derived.JoinedTies
import Derived.KernelRfl
namespace Go.Proofs.Ythbpddblejnjjaa
/- THE CELL 'sum', in the pinned program and in every row, IS THE sha256 OF THE DUMP (.gsa) THAT YthbpddblejnjjaaProg.lean LOADS. Nothing in Lean hashes anything: it is a label: what it is worth is what the hold of that sum in a sandbox is worth. -/
noncomputable def Try.pinned : Pinned := { name := "ythbpddblejnjjaa", sum := "6b56b498c8c0c97d09a77874133880cd0d73e475185dcb6f92bd287e1c520e0c", checked := Try.checked }
namespace Rows
def none {H : Type} : Left H := { results := [], args := [] }

/-- 'sealwrightlaw14.DiskRead': WHATEVER THE INPUT: true; the input reads as it did. -/
def diskReadSpec : ChangeSpec := { name := "diskRead", fn := fun _ => fun
  | [d1, d2, d3, d4, d5, d6] => { results := [.lit (.bool true)], args := [d1, d2, d3, d4, d5, d6] }
  | _ => none }
def diskReadRow : OpenClaim := { program := "ythbpddblejnjjaa", sum := "6b56b498c8c0c97d09a77874133880cd0d73e475185dcb6f92bd287e1c520e0c", func := "sealwright/sealwrightlaw14.DiskRead", spec := "diskRead", unfollowed := true, recurses := true, apart := false }
def DiskReadSaid : Prop := diskReadRow.holds Try.pinned (OpenSpec.ofChange diskReadSpec)

/-- ITS FALSE NEIGHBOUR: 'it returns false'. Refute it at one input. -/
def diskReadWrong : ChangeSpec := { name := "diskRead", fn := fun _ => fun
  | [d1, d2, d3, d4, d5, d6] => { results := [.lit (.bool false)], args := [d1, d2, d3, d4, d5, d6] }
  | _ => none }
def DiskReadWrongFalsely : Prop := diskReadRow.holds Try.pinned (OpenSpec.ofChange diskReadWrong)

/-- 'sealwrightlaw14.DiskWrite': WHATEVER THE INPUT: true; the input reads as it did. -/
def diskWriteSpec : ChangeSpec := { name := "diskWrite", fn := fun _ => fun
  | [d1, d2, d3, d4, d5, d6, d7, d8] => { results := [.lit (.bool true)], args := [d1, d2, d3, d4, d5, d6, d7, d8] }
  | _ => none }
def diskWriteRow : OpenClaim := { program := "ythbpddblejnjjaa", sum := "6b56b498c8c0c97d09a77874133880cd0d73e475185dcb6f92bd287e1c520e0c", func := "sealwright/sealwrightlaw14.DiskWrite", spec := "diskWrite", unfollowed := true, recurses := true, apart := false }
def DiskWriteSaid : Prop := diskWriteRow.holds Try.pinned (OpenSpec.ofChange diskWriteSpec)

/-- ITS FALSE NEIGHBOUR: 'it returns false'. Refute it at one input. -/
def diskWriteWrong : ChangeSpec := { name := "diskWrite", fn := fun _ => fun
  | [d1, d2, d3, d4, d5, d6, d7, d8] => { results := [.lit (.bool false)], args := [d1, d2, d3, d4, d5, d6, d7, d8] }
  | _ => none }
def DiskWriteWrongFalsely : Prop := diskWriteRow.holds Try.pinned (OpenSpec.ofChange diskWriteWrong)

/-- 'sealwrightlaw14.DiskLarge': WHATEVER THE INPUT: true; the input reads as it did. -/
def diskLargeSpec : ChangeSpec := { name := "diskLarge", fn := fun _ => fun
  | [d1, d2] => { results := [.lit (.bool true)], args := [d1, d2] }
  | _ => none }
def diskLargeRow : OpenClaim := { program := "ythbpddblejnjjaa", sum := "6b56b498c8c0c97d09a77874133880cd0d73e475185dcb6f92bd287e1c520e0c", func := "sealwright/sealwrightlaw14.DiskLarge", spec := "diskLarge", unfollowed := true, recurses := true, apart := false }
def DiskLargeSaid : Prop := diskLargeRow.holds Try.pinned (OpenSpec.ofChange diskLargeSpec)

/-- ITS FALSE NEIGHBOUR: 'it returns false'. Refute it at one input. -/
def diskLargeWrong : ChangeSpec := { name := "diskLarge", fn := fun _ => fun
  | [d1, d2] => { results := [.lit (.bool false)], args := [d1, d2] }
  | _ => none }
def DiskLargeWrongFalsely : Prop := diskLargeRow.holds Try.pinned (OpenSpec.ofChange diskLargeWrong)

/-- 'sealwrightlaw14.DiskOthers': WHATEVER THE INPUT: true; the input reads as it did. -/
def diskOthersSpec : ChangeSpec := { name := "diskOthers", fn := fun _ => fun
  | [d1, d2, d3, d4, d5, d6] => { results := [.lit (.bool true)], args := [d1, d2, d3, d4, d5, d6] }
  | _ => none }
def diskOthersRow : OpenClaim := { program := "ythbpddblejnjjaa", sum := "6b56b498c8c0c97d09a77874133880cd0d73e475185dcb6f92bd287e1c520e0c", func := "sealwright/sealwrightlaw14.DiskOthers", spec := "diskOthers", unfollowed := true, recurses := true, apart := false }
def DiskOthersSaid : Prop := diskOthersRow.holds Try.pinned (OpenSpec.ofChange diskOthersSpec)

/-- ITS FALSE NEIGHBOUR: 'it returns false'. Refute it at one input. -/
def diskOthersWrong : ChangeSpec := { name := "diskOthers", fn := fun _ => fun
  | [d1, d2, d3, d4, d5, d6] => { results := [.lit (.bool false)], args := [d1, d2, d3, d4, d5, d6] }
  | _ => none }
def DiskOthersWrongFalsely : Prop := diskOthersRow.holds Try.pinned (OpenSpec.ofChange diskOthersWrong)

/-- 'sealwrightlaw14.DiskNew': WHATEVER THE INPUT: true; the input reads as it did. -/
def diskNewSpec : ChangeSpec := { name := "diskNew", fn := fun _ => fun
  | [d1, d2, d3, d4] => { results := [.lit (.bool true)], args := [d1, d2, d3, d4] }
  | _ => none }
def diskNewRow : OpenClaim := { program := "ythbpddblejnjjaa", sum := "6b56b498c8c0c97d09a77874133880cd0d73e475185dcb6f92bd287e1c520e0c", func := "sealwright/sealwrightlaw14.DiskNew", spec := "diskNew", unfollowed := true, recurses := true, apart := false }
def DiskNewSaid : Prop := diskNewRow.holds Try.pinned (OpenSpec.ofChange diskNewSpec)

/-- ITS FALSE NEIGHBOUR: 'it returns false'. Refute it at one input. -/
def diskNewWrong : ChangeSpec := { name := "diskNew", fn := fun _ => fun
  | [d1, d2, d3, d4] => { results := [.lit (.bool false)], args := [d1, d2, d3, d4] }
  | _ => none }
def DiskNewWrongFalsely : Prop := diskNewRow.holds Try.pinned (OpenSpec.ofChange diskNewWrong)

/-- 'sealwrightlaw14.DiskTorn': WHATEVER THE INPUT: true; the input reads as it did. -/
def diskTornSpec : ChangeSpec := { name := "diskTorn", fn := fun _ => fun
  | [d1, d2, d3, d4] => { results := [.lit (.bool true)], args := [d1, d2, d3, d4] }
  | _ => none }
def diskTornRow : OpenClaim := { program := "ythbpddblejnjjaa", sum := "6b56b498c8c0c97d09a77874133880cd0d73e475185dcb6f92bd287e1c520e0c", func := "sealwright/sealwrightlaw14.DiskTorn", spec := "diskTorn", unfollowed := true, recurses := true, apart := false }
def DiskTornSaid : Prop := diskTornRow.holds Try.pinned (OpenSpec.ofChange diskTornSpec)

/-- ITS FALSE NEIGHBOUR: 'it returns false'. Refute it at one input. -/
def diskTornWrong : ChangeSpec := { name := "diskTorn", fn := fun _ => fun
  | [d1, d2, d3, d4] => { results := [.lit (.bool false)], args := [d1, d2, d3, d4] }
  | _ => none }
def DiskTornWrongFalsely : Prop := diskTornRow.holds Try.pinned (OpenSpec.ofChange diskTornWrong)

/- THE SECOND FORM. 'bulk': how many values and letters a reading holds, each counted each time it is reached (what is shared counts as often as it is met; a slice's spare places count too). A statement '..UptoSaid' is the law's where the arguments, and the package variables that the reading takes, are together of bulk at most 1048576: NARROWER than '..Said'. Prove '..Said' where nothing that the law and all that it calls make is longer than what came in: it says more and counts as full. Else prove '..UptoSaid'. A law counts once. -/
mutual
def uptoBulk {H : Type} : DataW H → Nat
  | .lit (.string bytes) => bytes.length + 1
  | .lit _ => 1
  | .nil => 1
  | .ptr d => uptoBulk d + 1
  | .slice elems spare => uptoBulkAll elems + uptoBulkAll spare + 1
  | .agg parts => uptoBulkAll parts + 1
  | .iface _ d => uptoBulk d + 1
  | .map entries => uptoBulkEntries entries + 1
  | .held _ => 1
def uptoBulkAll {H : Type} : List (DataW H) → Nat
  | [] => 0
  | d :: r => uptoBulk d + uptoBulkAll r
def uptoBulkEntries {H : Type} : List (Lit × DataW H) → Nat
  | [] => 0
  | x :: r => uptoBulkEntry x + uptoBulkEntries r
def uptoBulkEntry {H : Type} : Lit × DataW H → Nat
  | (.string bytes, d) => bytes.length + uptoBulk d + 1
  | (_, d) => uptoBulk d + 1
 end
def uptoSmall : (H : Type) → List (DataW H) → Bool := fun _ ds => decide (uptoBulkAll ds ≤ 1048576)
def OpenSpec.upto (s : _root_.Go.ChangeSpec) : _root_.Go.OpenSpec := { _root_.Go.OpenSpec.ofChange s with cond := some uptoSmall }

/-- 'sealwrightlaw14.DiskRead', WHERE WHAT IT READS IS OF BULK AT MOST 1048576: true; the input reads as it did. -/
def diskReadUptoRow : OpenClaim := { program := "ythbpddblejnjjaa", sum := "6b56b498c8c0c97d09a77874133880cd0d73e475185dcb6f92bd287e1c520e0c", func := "sealwright/sealwrightlaw14.DiskRead", spec := "diskRead", unfollowed := true, recurses := true, apart := false, narrowed := true }
def DiskReadUptoSaid : Prop := diskReadUptoRow.holds Try.pinned (OpenSpec.upto diskReadSpec)

/-- 'sealwrightlaw14.DiskWrite', WHERE WHAT IT READS IS OF BULK AT MOST 1048576: true; the input reads as it did. -/
def diskWriteUptoRow : OpenClaim := { program := "ythbpddblejnjjaa", sum := "6b56b498c8c0c97d09a77874133880cd0d73e475185dcb6f92bd287e1c520e0c", func := "sealwright/sealwrightlaw14.DiskWrite", spec := "diskWrite", unfollowed := true, recurses := true, apart := false, narrowed := true }
def DiskWriteUptoSaid : Prop := diskWriteUptoRow.holds Try.pinned (OpenSpec.upto diskWriteSpec)

/-- 'sealwrightlaw14.DiskLarge', WHERE WHAT IT READS IS OF BULK AT MOST 1048576: true; the input reads as it did. -/
def diskLargeUptoRow : OpenClaim := { program := "ythbpddblejnjjaa", sum := "6b56b498c8c0c97d09a77874133880cd0d73e475185dcb6f92bd287e1c520e0c", func := "sealwright/sealwrightlaw14.DiskLarge", spec := "diskLarge", unfollowed := true, recurses := true, apart := false, narrowed := true }
def DiskLargeUptoSaid : Prop := diskLargeUptoRow.holds Try.pinned (OpenSpec.upto diskLargeSpec)

/-- 'sealwrightlaw14.DiskOthers', WHERE WHAT IT READS IS OF BULK AT MOST 1048576: true; the input reads as it did. -/
def diskOthersUptoRow : OpenClaim := { program := "ythbpddblejnjjaa", sum := "6b56b498c8c0c97d09a77874133880cd0d73e475185dcb6f92bd287e1c520e0c", func := "sealwright/sealwrightlaw14.DiskOthers", spec := "diskOthers", unfollowed := true, recurses := true, apart := false, narrowed := true }
def DiskOthersUptoSaid : Prop := diskOthersUptoRow.holds Try.pinned (OpenSpec.upto diskOthersSpec)

/-- 'sealwrightlaw14.DiskNew', WHERE WHAT IT READS IS OF BULK AT MOST 1048576: true; the input reads as it did. -/
def diskNewUptoRow : OpenClaim := { program := "ythbpddblejnjjaa", sum := "6b56b498c8c0c97d09a77874133880cd0d73e475185dcb6f92bd287e1c520e0c", func := "sealwright/sealwrightlaw14.DiskNew", spec := "diskNew", unfollowed := true, recurses := true, apart := false, narrowed := true }
def DiskNewUptoSaid : Prop := diskNewUptoRow.holds Try.pinned (OpenSpec.upto diskNewSpec)

/-- 'sealwrightlaw14.DiskTorn', WHERE WHAT IT READS IS OF BULK AT MOST 1048576: true; the input reads as it did. -/
def diskTornUptoRow : OpenClaim := { program := "ythbpddblejnjjaa", sum := "6b56b498c8c0c97d09a77874133880cd0d73e475185dcb6f92bd287e1c520e0c", func := "sealwright/sealwrightlaw14.DiskTorn", spec := "diskTorn", unfollowed := true, recurses := true, apart := false, narrowed := true }
def DiskTornUptoSaid : Prop := diskTornUptoRow.holds Try.pinned (OpenSpec.upto diskTornSpec)

end Rows
end Go.Proofs.Ythbpddblejnjjaa
