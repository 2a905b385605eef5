/-
  No cell of these rows narrows 'for every input' (looked for: loops, veiled, ifaces, maps, wideKeys, modest, calm, conditions, laid).
  DERIVED. THE GIVEN ROWS OF THIS SEAT. 6 by the template 'for every input the law returns true; each argument reads behind the call as it read before'; 0 by the template 'total and deterministic' (their statements: YtdekjkcnfebfnaaTotals.lean).
  GIVEN WITH THE SEED: the statements are not yours to turn. If you find one false, say at which input.
  Laid BY PROGRAM, IN A SANDBOX (cutbox-rows.mjs): the forced cells as the released guide's own fill.sh prints them over the translation 1f6547a4a9344cc1… (all of the seat's roots in one cut). By AI agents, Wed Nov 11 2026. No macro, syntax, notation, axiom, sorry.
-/
import Derived.Test.YtdekjkcnfebfnaaChecked
import GoSem.Claim
import GoSem.ClaimJoined
import GoSem.ClaimMapViews
import Derived.JoinedTies
import Derived.KernelRfl
namespace Go.Proofs.Ytdekjkcnfebfnaa
/- THE CELL 'sum', in the pinned program and in every row, IS THE sha256 OF THE DUMP (.gsa) THAT YtdekjkcnfebfnaaProg.lean LOADS. Nothing in Lean hashes anything: it is a label: what it is worth is what the hold of that sum in a sandbox is worth. -/
noncomputable def Try.pinned : Pinned := { name := "ytdekjkcnfebfnaa", sum := "1f6547a4a9344cc1d5439877fe9bbc667d01a189fcefa57793ea97d1916869cd", checked := Try.checked }
namespace Rows
def none {H : Type} : Left H := { results := [], args := [] }

/-- 'sealwrightlaw12.IndexNew': WHATEVER THE INPUT: true; the input reads as it did. -/
def indexNewSpec : ChangeSpec := { name := "indexNew", fn := fun _ => fun
  | [d1, d2, d3, d4, d5, d6, d7] => { results := [.lit (.bool true)], args := [d1, d2, d3, d4, d5, d6, d7] }
  | _ => none }
def indexNewRow : OpenClaim := { program := "ytdekjkcnfebfnaa", sum := "1f6547a4a9344cc1d5439877fe9bbc667d01a189fcefa57793ea97d1916869cd", func := "sealwright/sealwrightlaw12.IndexNew", spec := "indexNew", apart := false }
def IndexNewSaid : Prop := indexNewRow.holds Try.pinned (OpenSpec.ofChange indexNewSpec)

/-- ITS FALSE NEIGHBOUR: 'it returns false'. Refute it at one input. -/
def indexNewWrong : ChangeSpec := { name := "indexNew", fn := fun _ => fun
  | [d1, d2, d3, d4, d5, d6, d7] => { results := [.lit (.bool false)], args := [d1, d2, d3, d4, d5, d6, d7] }
  | _ => none }
def IndexNewWrongFalsely : Prop := indexNewRow.holds Try.pinned (OpenSpec.ofChange indexNewWrong)

/-- 'sealwrightlaw12.IndexWrite': WHATEVER THE INPUT: true; the input reads as it did. -/
def indexWriteSpec : ChangeSpec := { name := "indexWrite", fn := fun _ => fun
  | [d1, d2, d3, d4] => { results := [.lit (.bool true)], args := [d1, d2, d3, d4] }
  | _ => none }
def indexWriteRow : OpenClaim := { program := "ytdekjkcnfebfnaa", sum := "1f6547a4a9344cc1d5439877fe9bbc667d01a189fcefa57793ea97d1916869cd", func := "sealwright/sealwrightlaw12.IndexWrite", spec := "indexWrite", apart := false }
def IndexWriteSaid : Prop := indexWriteRow.holds Try.pinned (OpenSpec.ofChange indexWriteSpec)

/-- ITS FALSE NEIGHBOUR: 'it returns false'. Refute it at one input. -/
def indexWriteWrong : ChangeSpec := { name := "indexWrite", fn := fun _ => fun
  | [d1, d2, d3, d4] => { results := [.lit (.bool false)], args := [d1, d2, d3, d4] }
  | _ => none }
def IndexWriteWrongFalsely : Prop := indexWriteRow.holds Try.pinned (OpenSpec.ofChange indexWriteWrong)

/-- 'sealwrightlaw12.IndexRead': WHATEVER THE INPUT: true; the input reads as it did. -/
def indexReadSpec : ChangeSpec := { name := "indexRead", fn := fun _ => fun
  | [d1, d2, d3, d4, d5] => { results := [.lit (.bool true)], args := [d1, d2, d3, d4, d5] }
  | _ => none }
def indexReadRow : OpenClaim := { program := "ytdekjkcnfebfnaa", sum := "1f6547a4a9344cc1d5439877fe9bbc667d01a189fcefa57793ea97d1916869cd", func := "sealwright/sealwrightlaw12.IndexRead", spec := "indexRead", apart := false }
def IndexReadSaid : Prop := indexReadRow.holds Try.pinned (OpenSpec.ofChange indexReadSpec)

/-- ITS FALSE NEIGHBOUR: 'it returns false'. Refute it at one input. -/
def indexReadWrong : ChangeSpec := { name := "indexRead", fn := fun _ => fun
  | [d1, d2, d3, d4, d5] => { results := [.lit (.bool false)], args := [d1, d2, d3, d4, d5] }
  | _ => none }
def IndexReadWrongFalsely : Prop := indexReadRow.holds Try.pinned (OpenSpec.ofChange indexReadWrong)

/-- 'sealwrightlaw12.IndexOthers': WHATEVER THE INPUT: true; the input reads as it did. -/
def indexOthersSpec : ChangeSpec := { name := "indexOthers", fn := fun _ => fun
  | [d1, d2, d3, d4, d5, d6] => { results := [.lit (.bool true)], args := [d1, d2, d3, d4, d5, d6] }
  | _ => none }
def indexOthersRow : OpenClaim := { program := "ytdekjkcnfebfnaa", sum := "1f6547a4a9344cc1d5439877fe9bbc667d01a189fcefa57793ea97d1916869cd", func := "sealwright/sealwrightlaw12.IndexOthers", spec := "indexOthers", apart := false }
def IndexOthersSaid : Prop := indexOthersRow.holds Try.pinned (OpenSpec.ofChange indexOthersSpec)

/-- ITS FALSE NEIGHBOUR: 'it returns false'. Refute it at one input. -/
def indexOthersWrong : ChangeSpec := { name := "indexOthers", fn := fun _ => fun
  | [d1, d2, d3, d4, d5, d6] => { results := [.lit (.bool false)], args := [d1, d2, d3, d4, d5, d6] }
  | _ => none }
def IndexOthersWrongFalsely : Prop := indexOthersRow.holds Try.pinned (OpenSpec.ofChange indexOthersWrong)

/-- 'sealwrightlaw12.IndexBits': WHATEVER THE INPUT: true; the input reads as it did. -/
def indexBitsSpec : ChangeSpec := { name := "indexBits", fn := fun _ => fun
  | [d1, d2, d3, d4] => { results := [.lit (.bool true)], args := [d1, d2, d3, d4] }
  | _ => none }
def indexBitsRow : OpenClaim := { program := "ytdekjkcnfebfnaa", sum := "1f6547a4a9344cc1d5439877fe9bbc667d01a189fcefa57793ea97d1916869cd", func := "sealwright/sealwrightlaw12.IndexBits", spec := "indexBits", apart := false }
def IndexBitsSaid : Prop := indexBitsRow.holds Try.pinned (OpenSpec.ofChange indexBitsSpec)

/-- ITS FALSE NEIGHBOUR: 'it returns false'. Refute it at one input. -/
def indexBitsWrong : ChangeSpec := { name := "indexBits", fn := fun _ => fun
  | [d1, d2, d3, d4] => { results := [.lit (.bool false)], args := [d1, d2, d3, d4] }
  | _ => none }
def IndexBitsWrongFalsely : Prop := indexBitsRow.holds Try.pinned (OpenSpec.ofChange indexBitsWrong)

/-- 'sealwrightlaw12.IndexIncrement': WHATEVER THE INPUT: true; the input reads as it did. -/
def indexIncrementSpec : ChangeSpec := { name := "indexIncrement", fn := fun _ => fun
  | [d1, d2, d3, d4] => { results := [.lit (.bool true)], args := [d1, d2, d3, d4] }
  | _ => none }
def indexIncrementRow : OpenClaim := { program := "ytdekjkcnfebfnaa", sum := "1f6547a4a9344cc1d5439877fe9bbc667d01a189fcefa57793ea97d1916869cd", func := "sealwright/sealwrightlaw12.IndexIncrement", spec := "indexIncrement", apart := false }
def IndexIncrementSaid : Prop := indexIncrementRow.holds Try.pinned (OpenSpec.ofChange indexIncrementSpec)

/-- ITS FALSE NEIGHBOUR: 'it returns false'. Refute it at one input. -/
def indexIncrementWrong : ChangeSpec := { name := "indexIncrement", fn := fun _ => fun
  | [d1, d2, d3, d4] => { results := [.lit (.bool false)], args := [d1, d2, d3, d4] }
  | _ => none }
def IndexIncrementWrongFalsely : Prop := indexIncrementRow.holds Try.pinned (OpenSpec.ofChange indexIncrementWrong)

/- THE SECOND FORM. 'bulk': how many values and letters a reading holds, each counted each time it is reached (what is shared counts as often as it is met; a slice's spare places count too). A statement '..UptoSaid' is the law's where the arguments, and the package variables that the reading takes, are together of bulk at most 1048576: NARROWER than '..Said'. Prove '..Said' where nothing that the law and all that it calls make is longer than what came in: it says more and counts as full. Else prove '..UptoSaid'. A law counts once. -/
mutual
def uptoBulk {H : Type} : DataW H → Nat
  | .lit (.string bytes) => bytes.length + 1
  | .lit _ => 1
  | .nil => 1
  | .ptr d => uptoBulk d + 1
  | .slice elems spare => uptoBulkAll elems + uptoBulkAll spare + 1
  | .agg parts => uptoBulkAll parts + 1
  | .iface _ d => uptoBulk d + 1
  | .map entries => uptoBulkEntries entries + 1
  | .held _ => 1
def uptoBulkAll {H : Type} : List (DataW H) → Nat
  | [] => 0
  | d :: r => uptoBulk d + uptoBulkAll r
def uptoBulkEntries {H : Type} : List (Lit × DataW H) → Nat
  | [] => 0
  | x :: r => uptoBulkEntry x + uptoBulkEntries r
def uptoBulkEntry {H : Type} : Lit × DataW H → Nat
  | (.string bytes, d) => bytes.length + uptoBulk d + 1
  | (_, d) => uptoBulk d + 1
 end
def uptoSmall : (H : Type) → List (DataW H) → Bool := fun _ ds => decide (uptoBulkAll ds ≤ 1048576)
def OpenSpec.upto (s : _root_.Go.ChangeSpec) : _root_.Go.OpenSpec := { _root_.Go.OpenSpec.ofChange s with cond := some uptoSmall }

/-- 'sealwrightlaw12.IndexNew', WHERE WHAT IT READS IS OF BULK AT MOST 1048576: true; the input reads as it did. -/
def indexNewUptoRow : OpenClaim := { program := "ytdekjkcnfebfnaa", sum := "1f6547a4a9344cc1d5439877fe9bbc667d01a189fcefa57793ea97d1916869cd", func := "sealwright/sealwrightlaw12.IndexNew", spec := "indexNew", apart := false, narrowed := true }
def IndexNewUptoSaid : Prop := indexNewUptoRow.holds Try.pinned (OpenSpec.upto indexNewSpec)

/-- 'sealwrightlaw12.IndexWrite', WHERE WHAT IT READS IS OF BULK AT MOST 1048576: true; the input reads as it did. -/
def indexWriteUptoRow : OpenClaim := { program := "ytdekjkcnfebfnaa", sum := "1f6547a4a9344cc1d5439877fe9bbc667d01a189fcefa57793ea97d1916869cd", func := "sealwright/sealwrightlaw12.IndexWrite", spec := "indexWrite", apart := false, narrowed := true }
def IndexWriteUptoSaid : Prop := indexWriteUptoRow.holds Try.pinned (OpenSpec.upto indexWriteSpec)

/-- 'sealwrightlaw12.IndexRead', WHERE WHAT IT READS IS OF BULK AT MOST 1048576: true; the input reads as it did. -/
def indexReadUptoRow : OpenClaim := { program := "ytdekjkcnfebfnaa", sum := "1f6547a4a9344cc1d5439877fe9bbc667d01a189fcefa57793ea97d1916869cd", func := "sealwright/sealwrightlaw12.IndexRead", spec := "indexRead", apart := false, narrowed := true }
def IndexReadUptoSaid : Prop := indexReadUptoRow.holds Try.pinned (OpenSpec.upto indexReadSpec)

/-- 'sealwrightlaw12.IndexOthers', WHERE WHAT IT READS IS OF BULK AT MOST 1048576: true; the input reads as it did. -/
def indexOthersUptoRow : OpenClaim := { program := "ytdekjkcnfebfnaa", sum := "1f6547a4a9344cc1d5439877fe9bbc667d01a189fcefa57793ea97d1916869cd", func := "sealwright/sealwrightlaw12.IndexOthers", spec := "indexOthers", apart := false, narrowed := true }
def IndexOthersUptoSaid : Prop := indexOthersUptoRow.holds Try.pinned (OpenSpec.upto indexOthersSpec)

/-- 'sealwrightlaw12.IndexBits', WHERE WHAT IT READS IS OF BULK AT MOST 1048576: true; the input reads as it did. -/
def indexBitsUptoRow : OpenClaim := { program := "ytdekjkcnfebfnaa", sum := "1f6547a4a9344cc1d5439877fe9bbc667d01a189fcefa57793ea97d1916869cd", func := "sealwright/sealwrightlaw12.IndexBits", spec := "indexBits", apart := false, narrowed := true }
def IndexBitsUptoSaid : Prop := indexBitsUptoRow.holds Try.pinned (OpenSpec.upto indexBitsSpec)

/-- 'sealwrightlaw12.IndexIncrement', WHERE WHAT IT READS IS OF BULK AT MOST 1048576: true; the input reads as it did. -/
def indexIncrementUptoRow : OpenClaim := { program := "ytdekjkcnfebfnaa", sum := "1f6547a4a9344cc1d5439877fe9bbc667d01a189fcefa57793ea97d1916869cd", func := "sealwright/sealwrightlaw12.IndexIncrement", spec := "indexIncrement", apart := false, narrowed := true }
def IndexIncrementUptoSaid : Prop := indexIncrementUptoRow.holds Try.pinned (OpenSpec.upto indexIncrementSpec)

end Rows
end Go.Proofs.Ytdekjkcnfebfnaa
