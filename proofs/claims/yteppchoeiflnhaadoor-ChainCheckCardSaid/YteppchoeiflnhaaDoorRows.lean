/-
  NARROWER THAN 'FOR EVERY INPUT', by the rows' own cells (each row's printed sentence says how): ImageLines: laid · ImageCheck: laid · ImageEncode: laid · ImageDecode: laid · ImageDistinct: laid · ImageDigests: laid · ChainCheck: laid · ChainMany: laid · ChainDistinct: laid · ChainCodec: laid.
  DERIVED. THE GIVEN ROWS OF THIS SEAT. 10 by the template 'for every input the law returns true; each argument reads behind the call as it read before'; 0 by the template 'total and deterministic' (their statements: YteppchoeiflnhaaDoorTotals.lean).
  GIVEN WITH THE SEED: the statements are not yours to turn. If you find one false, say at which input.
  Laid BY PROGRAM, IN A SANDBOX (cutbox-rows.mjs): the forced cells as the released guide's own fill.sh prints them over the translation db811ad74c2795a6… (all of the seat's roots in one cut). By AI agents, Wed Nov 11 2026. No macro, syntax, notation, axiom, sorry.
-/
import Derived.Test.YteppchoeiflnhaaDoorChecked
import GoSem.Claim
import GoSem.ClaimJoined
import GoSem.ClaimMapViews
import Derived.JoinedTies
import Derived.KernelRfl
namespace Go.Proofs.YteppchoeiflnhaaDoor
/- THE CELL 'sum', in the pinned program and in every row, IS THE sha256 OF THE DUMP (.gsa) THAT YteppchoeiflnhaaDoorProg.lean LOADS. Nothing in Lean hashes anything: it is a label: what it is worth is what the hold of that sum in a sandbox is worth. -/
noncomputable def Tryd.pinned : Pinned := { name := "yteppchoeiflnhaadoor", sum := "db811ad74c2795a6a8653a8acbe241e4da64860a146c87637a527e87523323e0", checked := Tryd.checked }
namespace Rows
def none {H : Type} : Left H := { results := [], args := [] }

/- WHAT THE LISTED PACKAGE-LEVEL VARIABLES READ AS WHEN THE CALL BEGINS. Each datum BY PROGRAM (the guide's laid-datum.mjs) off the statement by which the dump's own 'gosem.cut.vars' lays the variable. In a bare row this is a premise. The card (YteppchoeiflnhaaDoorCards.lean) ties it to the program's text. -/
def laid_sealwright_digest_round256 {H : Type} : DataW H := .agg [.lit (.int .u32 1116352408), .lit (.int .u32 1899447441), .lit (.int .u32 3049323471), .lit (.int .u32 3921009573), .lit (.int .u32 961987163), .lit (.int .u32 1508970993), .lit (.int .u32 2453635748), .lit (.int .u32 2870763221), .lit (.int .u32 3624381080), .lit (.int .u32 310598401), .lit (.int .u32 607225278), .lit (.int .u32 1426881987), .lit (.int .u32 1925078388), .lit (.int .u32 2162078206), .lit (.int .u32 2614888103), .lit (.int .u32 3248222580), .lit (.int .u32 3835390401), .lit (.int .u32 4022224774), .lit (.int .u32 264347078), .lit (.int .u32 604807628), .lit (.int .u32 770255983), .lit (.int .u32 1249150122), .lit (.int .u32 1555081692), .lit (.int .u32 1996064986), .lit (.int .u32 2554220882), .lit (.int .u32 2821834349), .lit (.int .u32 2952996808), .lit (.int .u32 3210313671), .lit (.int .u32 3336571891), .lit (.int .u32 3584528711), .lit (.int .u32 113926993), .lit (.int .u32 338241895), .lit (.int .u32 666307205), .lit (.int .u32 773529912), .lit (.int .u32 1294757372), .lit (.int .u32 1396182291), .lit (.int .u32 1695183700), .lit (.int .u32 1986661051), .lit (.int .u32 2177026350), .lit (.int .u32 2456956037), .lit (.int .u32 2730485921), .lit (.int .u32 2820302411), .lit (.int .u32 3259730800), .lit (.int .u32 3345764771), .lit (.int .u32 3516065817), .lit (.int .u32 3600352804), .lit (.int .u32 4094571909), .lit (.int .u32 275423344), .lit (.int .u32 430227734), .lit (.int .u32 506948616), .lit (.int .u32 659060556), .lit (.int .u32 883997877), .lit (.int .u32 958139571), .lit (.int .u32 1322822218), .lit (.int .u32 1537002063), .lit (.int .u32 1747873779), .lit (.int .u32 1955562222), .lit (.int .u32 2024104815), .lit (.int .u32 2227730452), .lit (.int .u32 2361852424), .lit (.int .u32 2428436474), .lit (.int .u32 2756734187), .lit (.int .u32 3204031479), .lit (.int .u32 3329325298)]
def laid_sealwright_image_measured {H : Type} : DataW H := .agg [.lit (.int .i64 (-1)), .lit (.int .i64 0), .lit (.int .i64 4), .lit (.int .i64 8), .lit (.int .i64 9)]

/-- 'sealwrightlaw25.ImageLines': WHATEVER THE INPUT: true; the input reads as it did. -/
def imageLinesSpec : ChangeSpec := { name := "imageLines", fn := fun _ => fun
  | [d1, d2, d3, d4] => { results := [.lit (.bool true)], args := [d1, d2, d3, d4] }
  | _ => none }
def imageLinesRow : OpenClaim := { program := "yteppchoeiflnhaadoor", sum := "db811ad74c2795a6a8653a8acbe241e4da64860a146c87637a527e87523323e0", func := "sealwright/sealwrightlaw25.ImageLines", spec := "imageLines", inPlace := ["internal/bytealg.IndexByte"], unfollowed := true, recurses := true, named := ["sealwright/digest.round256", "sealwright/image.measured"], apart := false, laid := [("sealwright/digest.round256", laid_sealwright_digest_round256), ("sealwright/image.measured", laid_sealwright_image_measured)] }
def ImageLinesSaid : Prop := imageLinesRow.holds Tryd.pinned (OpenSpec.ofChange imageLinesSpec)

/-- ITS FALSE NEIGHBOUR: 'it returns false'. Refute it at one input. -/
def imageLinesWrong : ChangeSpec := { name := "imageLines", fn := fun _ => fun
  | [d1, d2, d3, d4] => { results := [.lit (.bool false)], args := [d1, d2, d3, d4] }
  | _ => none }
def ImageLinesWrongFalsely : Prop := imageLinesRow.holds Tryd.pinned (OpenSpec.ofChange imageLinesWrong)

/-- 'sealwrightlaw25.ImageCheck': WHATEVER THE INPUT: true; the input reads as it did. -/
def imageCheckSpec : ChangeSpec := { name := "imageCheck", fn := fun _ => fun
  | [d1, d2, d3, d4] => { results := [.lit (.bool true)], args := [d1, d2, d3, d4] }
  | _ => none }
def imageCheckRow : OpenClaim := { program := "yteppchoeiflnhaadoor", sum := "db811ad74c2795a6a8653a8acbe241e4da64860a146c87637a527e87523323e0", func := "sealwright/sealwrightlaw25.ImageCheck", spec := "imageCheck", inPlace := ["internal/bytealg.IndexByte"], unfollowed := true, recurses := true, named := ["sealwright/digest.round256", "sealwright/image.measured"], apart := false, laid := [("sealwright/digest.round256", laid_sealwright_digest_round256), ("sealwright/image.measured", laid_sealwright_image_measured)] }
def ImageCheckSaid : Prop := imageCheckRow.holds Tryd.pinned (OpenSpec.ofChange imageCheckSpec)

/-- ITS FALSE NEIGHBOUR: 'it returns false'. Refute it at one input. -/
def imageCheckWrong : ChangeSpec := { name := "imageCheck", fn := fun _ => fun
  | [d1, d2, d3, d4] => { results := [.lit (.bool false)], args := [d1, d2, d3, d4] }
  | _ => none }
def ImageCheckWrongFalsely : Prop := imageCheckRow.holds Tryd.pinned (OpenSpec.ofChange imageCheckWrong)

/-- 'sealwrightlaw25.ImageEncode': WHATEVER THE INPUT: true; the input reads as it did. -/
def imageEncodeSpec : ChangeSpec := { name := "imageEncode", fn := fun _ => fun
  | [d1, d2, d3] => { results := [.lit (.bool true)], args := [d1, d2, d3] }
  | _ => none }
def imageEncodeRow : OpenClaim := { program := "yteppchoeiflnhaadoor", sum := "db811ad74c2795a6a8653a8acbe241e4da64860a146c87637a527e87523323e0", func := "sealwright/sealwrightlaw25.ImageEncode", spec := "imageEncode", inPlace := ["internal/bytealg.IndexByte"], unfollowed := true, recurses := true, named := ["sealwright/digest.round256", "sealwright/image.measured"], apart := false, laid := [("sealwright/digest.round256", laid_sealwright_digest_round256), ("sealwright/image.measured", laid_sealwright_image_measured)] }
def ImageEncodeSaid : Prop := imageEncodeRow.holds Tryd.pinned (OpenSpec.ofChange imageEncodeSpec)

/-- ITS FALSE NEIGHBOUR: 'it returns false'. Refute it at one input. -/
def imageEncodeWrong : ChangeSpec := { name := "imageEncode", fn := fun _ => fun
  | [d1, d2, d3] => { results := [.lit (.bool false)], args := [d1, d2, d3] }
  | _ => none }
def ImageEncodeWrongFalsely : Prop := imageEncodeRow.holds Tryd.pinned (OpenSpec.ofChange imageEncodeWrong)

/-- 'sealwrightlaw25.ImageDecode': WHATEVER THE INPUT: true; the input reads as it did. -/
def imageDecodeSpec : ChangeSpec := { name := "imageDecode", fn := fun _ => fun
  | [d1, d2, d3, d4, d5, d6] => { results := [.lit (.bool true)], args := [d1, d2, d3, d4, d5, d6] }
  | _ => none }
def imageDecodeRow : OpenClaim := { program := "yteppchoeiflnhaadoor", sum := "db811ad74c2795a6a8653a8acbe241e4da64860a146c87637a527e87523323e0", func := "sealwright/sealwrightlaw25.ImageDecode", spec := "imageDecode", inPlace := ["internal/bytealg.IndexByte"], unfollowed := true, recurses := true, named := ["sealwright/digest.round256", "sealwright/image.measured"], apart := false, laid := [("sealwright/digest.round256", laid_sealwright_digest_round256), ("sealwright/image.measured", laid_sealwright_image_measured)] }
def ImageDecodeSaid : Prop := imageDecodeRow.holds Tryd.pinned (OpenSpec.ofChange imageDecodeSpec)

/-- ITS FALSE NEIGHBOUR: 'it returns false'. Refute it at one input. -/
def imageDecodeWrong : ChangeSpec := { name := "imageDecode", fn := fun _ => fun
  | [d1, d2, d3, d4, d5, d6] => { results := [.lit (.bool false)], args := [d1, d2, d3, d4, d5, d6] }
  | _ => none }
def ImageDecodeWrongFalsely : Prop := imageDecodeRow.holds Tryd.pinned (OpenSpec.ofChange imageDecodeWrong)

/-- 'sealwrightlaw25.ImageDistinct': WHATEVER THE INPUT: true; the input reads as it did. -/
def imageDistinctSpec : ChangeSpec := { name := "imageDistinct", fn := fun _ => fun
  | [d1, d2, d3, d4] => { results := [.lit (.bool true)], args := [d1, d2, d3, d4] }
  | _ => none }
def imageDistinctRow : OpenClaim := { program := "yteppchoeiflnhaadoor", sum := "db811ad74c2795a6a8653a8acbe241e4da64860a146c87637a527e87523323e0", func := "sealwright/sealwrightlaw25.ImageDistinct", spec := "imageDistinct", inPlace := ["internal/bytealg.IndexByte"], unfollowed := true, recurses := true, named := ["sealwright/digest.round256", "sealwright/image.measured"], apart := false, laid := [("sealwright/digest.round256", laid_sealwright_digest_round256), ("sealwright/image.measured", laid_sealwright_image_measured)] }
def ImageDistinctSaid : Prop := imageDistinctRow.holds Tryd.pinned (OpenSpec.ofChange imageDistinctSpec)

/-- ITS FALSE NEIGHBOUR: 'it returns false'. Refute it at one input. -/
def imageDistinctWrong : ChangeSpec := { name := "imageDistinct", fn := fun _ => fun
  | [d1, d2, d3, d4] => { results := [.lit (.bool false)], args := [d1, d2, d3, d4] }
  | _ => none }
def ImageDistinctWrongFalsely : Prop := imageDistinctRow.holds Tryd.pinned (OpenSpec.ofChange imageDistinctWrong)

/-- 'sealwrightlaw25.ImageDigests': WHATEVER THE INPUT: true; the input reads as it did. -/
def imageDigestsSpec : ChangeSpec := { name := "imageDigests", fn := fun _ => fun
  | [d1, d2, d3, d4] => { results := [.lit (.bool true)], args := [d1, d2, d3, d4] }
  | _ => none }
def imageDigestsRow : OpenClaim := { program := "yteppchoeiflnhaadoor", sum := "db811ad74c2795a6a8653a8acbe241e4da64860a146c87637a527e87523323e0", func := "sealwright/sealwrightlaw25.ImageDigests", spec := "imageDigests", inPlace := ["internal/bytealg.IndexByte"], unfollowed := true, recurses := true, named := ["sealwright/digest.round256", "sealwright/image.measured"], apart := false, laid := [("sealwright/digest.round256", laid_sealwright_digest_round256), ("sealwright/image.measured", laid_sealwright_image_measured)] }
def ImageDigestsSaid : Prop := imageDigestsRow.holds Tryd.pinned (OpenSpec.ofChange imageDigestsSpec)

/-- ITS FALSE NEIGHBOUR: 'it returns false'. Refute it at one input. -/
def imageDigestsWrong : ChangeSpec := { name := "imageDigests", fn := fun _ => fun
  | [d1, d2, d3, d4] => { results := [.lit (.bool false)], args := [d1, d2, d3, d4] }
  | _ => none }
def ImageDigestsWrongFalsely : Prop := imageDigestsRow.holds Tryd.pinned (OpenSpec.ofChange imageDigestsWrong)

/-- 'sealwrightlaw25.ChainCheck': WHATEVER THE INPUT: true; the input reads as it did. -/
def chainCheckSpec : ChangeSpec := { name := "chainCheck", fn := fun _ => fun
  | [d1, d2, d3, d4, d5, d6] => { results := [.lit (.bool true)], args := [d1, d2, d3, d4, d5, d6] }
  | _ => none }
def chainCheckRow : OpenClaim := { program := "yteppchoeiflnhaadoor", sum := "db811ad74c2795a6a8653a8acbe241e4da64860a146c87637a527e87523323e0", func := "sealwright/sealwrightlaw25.ChainCheck", spec := "chainCheck", inPlace := ["internal/bytealg.IndexByte"], unfollowed := true, recurses := true, named := ["sealwright/digest.round256", "sealwright/image.measured"], apart := false, laid := [("sealwright/digest.round256", laid_sealwright_digest_round256), ("sealwright/image.measured", laid_sealwright_image_measured)] }
def ChainCheckSaid : Prop := chainCheckRow.holds Tryd.pinned (OpenSpec.ofChange chainCheckSpec)

/-- ITS FALSE NEIGHBOUR: 'it returns false'. Refute it at one input. -/
def chainCheckWrong : ChangeSpec := { name := "chainCheck", fn := fun _ => fun
  | [d1, d2, d3, d4, d5, d6] => { results := [.lit (.bool false)], args := [d1, d2, d3, d4, d5, d6] }
  | _ => none }
def ChainCheckWrongFalsely : Prop := chainCheckRow.holds Tryd.pinned (OpenSpec.ofChange chainCheckWrong)

/-- 'sealwrightlaw25.ChainMany': WHATEVER THE INPUT: true; the input reads as it did. -/
def chainManySpec : ChangeSpec := { name := "chainMany", fn := fun _ => fun
  | [d] => { results := [.lit (.bool true)], args := [d] }
  | _ => none }
def chainManyRow : OpenClaim := { program := "yteppchoeiflnhaadoor", sum := "db811ad74c2795a6a8653a8acbe241e4da64860a146c87637a527e87523323e0", func := "sealwright/sealwrightlaw25.ChainMany", spec := "chainMany", inPlace := ["internal/bytealg.IndexByte"], unfollowed := true, recurses := true, named := ["sealwright/digest.round256", "sealwright/image.measured"], apart := false, laid := [("sealwright/digest.round256", laid_sealwright_digest_round256), ("sealwright/image.measured", laid_sealwright_image_measured)] }
def ChainManySaid : Prop := chainManyRow.holds Tryd.pinned (OpenSpec.ofChange chainManySpec)

/-- ITS FALSE NEIGHBOUR: 'it returns false'. Refute it at one input. -/
def chainManyWrong : ChangeSpec := { name := "chainMany", fn := fun _ => fun
  | [d] => { results := [.lit (.bool false)], args := [d] }
  | _ => none }
def ChainManyWrongFalsely : Prop := chainManyRow.holds Tryd.pinned (OpenSpec.ofChange chainManyWrong)

/-- 'sealwrightlaw25.ChainDistinct': WHATEVER THE INPUT: true; the input reads as it did. -/
def chainDistinctSpec : ChangeSpec := { name := "chainDistinct", fn := fun _ => fun
  | [d1, d2, d3] => { results := [.lit (.bool true)], args := [d1, d2, d3] }
  | _ => none }
def chainDistinctRow : OpenClaim := { program := "yteppchoeiflnhaadoor", sum := "db811ad74c2795a6a8653a8acbe241e4da64860a146c87637a527e87523323e0", func := "sealwright/sealwrightlaw25.ChainDistinct", spec := "chainDistinct", inPlace := ["internal/bytealg.IndexByte"], unfollowed := true, recurses := true, named := ["sealwright/digest.round256", "sealwright/image.measured"], apart := false, laid := [("sealwright/digest.round256", laid_sealwright_digest_round256), ("sealwright/image.measured", laid_sealwright_image_measured)] }
def ChainDistinctSaid : Prop := chainDistinctRow.holds Tryd.pinned (OpenSpec.ofChange chainDistinctSpec)

/-- ITS FALSE NEIGHBOUR: 'it returns false'. Refute it at one input. -/
def chainDistinctWrong : ChangeSpec := { name := "chainDistinct", fn := fun _ => fun
  | [d1, d2, d3] => { results := [.lit (.bool false)], args := [d1, d2, d3] }
  | _ => none }
def ChainDistinctWrongFalsely : Prop := chainDistinctRow.holds Tryd.pinned (OpenSpec.ofChange chainDistinctWrong)

/-- 'sealwrightlaw25.ChainCodec': WHATEVER THE INPUT: true; the input reads as it did. -/
def chainCodecSpec : ChangeSpec := { name := "chainCodec", fn := fun _ => fun
  | [d1, d2, d3, d4, d5] => { results := [.lit (.bool true)], args := [d1, d2, d3, d4, d5] }
  | _ => none }
def chainCodecRow : OpenClaim := { program := "yteppchoeiflnhaadoor", sum := "db811ad74c2795a6a8653a8acbe241e4da64860a146c87637a527e87523323e0", func := "sealwright/sealwrightlaw25.ChainCodec", spec := "chainCodec", inPlace := ["internal/bytealg.IndexByte"], unfollowed := true, recurses := true, named := ["sealwright/digest.round256", "sealwright/image.measured"], apart := false, laid := [("sealwright/digest.round256", laid_sealwright_digest_round256), ("sealwright/image.measured", laid_sealwright_image_measured)] }
def ChainCodecSaid : Prop := chainCodecRow.holds Tryd.pinned (OpenSpec.ofChange chainCodecSpec)

/-- ITS FALSE NEIGHBOUR: 'it returns false'. Refute it at one input. -/
def chainCodecWrong : ChangeSpec := { name := "chainCodec", fn := fun _ => fun
  | [d1, d2, d3, d4, d5] => { results := [.lit (.bool false)], args := [d1, d2, d3, d4, d5] }
  | _ => none }
def ChainCodecWrongFalsely : Prop := chainCodecRow.holds Tryd.pinned (OpenSpec.ofChange chainCodecWrong)

/- THE SECOND FORM. 'bulk': how many values and letters a reading holds, each counted each time it is reached (what is shared counts as often as it is met; a slice's spare places count too). A statement '..UptoSaid' is the law's where the arguments, and the package variables that the reading takes, are together of bulk at most 1048576: NARROWER than '..Said'. Prove '..Said' where nothing that the law and all that it calls make is longer than what came in: it says more and counts as full. Else prove '..UptoSaid'. A law counts once. -/
mutual
def uptoBulk {H : Type} : DataW H → Nat
  | .lit (.string bytes) => bytes.length + 1
  | .lit _ => 1
  | .nil => 1
  | .ptr d => uptoBulk d + 1
  | .slice elems spare => uptoBulkAll elems + uptoBulkAll spare + 1
  | .agg parts => uptoBulkAll parts + 1
  | .iface _ d => uptoBulk d + 1
  | .map entries => uptoBulkEntries entries + 1
  | .held _ => 1
def uptoBulkAll {H : Type} : List (DataW H) → Nat
  | [] => 0
  | d :: r => uptoBulk d + uptoBulkAll r
def uptoBulkEntries {H : Type} : List (Lit × DataW H) → Nat
  | [] => 0
  | x :: r => uptoBulkEntry x + uptoBulkEntries r
def uptoBulkEntry {H : Type} : Lit × DataW H → Nat
  | (.string bytes, d) => bytes.length + uptoBulk d + 1
  | (_, d) => uptoBulk d + 1
 end
def uptoSmall : (H : Type) → List (DataW H) → Bool := fun _ ds => decide (uptoBulkAll ds ≤ 1048576)
def OpenSpec.upto (s : _root_.Go.ChangeSpec) : _root_.Go.OpenSpec := { _root_.Go.OpenSpec.ofChange s with cond := some uptoSmall }

/-- 'sealwrightlaw25.ImageLines', WHERE WHAT IT READS IS OF BULK AT MOST 1048576: true; the input reads as it did. -/
def imageLinesUptoRow : OpenClaim := { program := "yteppchoeiflnhaadoor", sum := "db811ad74c2795a6a8653a8acbe241e4da64860a146c87637a527e87523323e0", func := "sealwright/sealwrightlaw25.ImageLines", spec := "imageLines", inPlace := ["internal/bytealg.IndexByte"], unfollowed := true, recurses := true, named := ["sealwright/digest.round256", "sealwright/image.measured"], apart := false, laid := [("sealwright/digest.round256", laid_sealwright_digest_round256), ("sealwright/image.measured", laid_sealwright_image_measured)], narrowed := true }
def ImageLinesUptoSaid : Prop := imageLinesUptoRow.holds Tryd.pinned (OpenSpec.upto imageLinesSpec)

/-- 'sealwrightlaw25.ImageCheck', WHERE WHAT IT READS IS OF BULK AT MOST 1048576: true; the input reads as it did. -/
def imageCheckUptoRow : OpenClaim := { program := "yteppchoeiflnhaadoor", sum := "db811ad74c2795a6a8653a8acbe241e4da64860a146c87637a527e87523323e0", func := "sealwright/sealwrightlaw25.ImageCheck", spec := "imageCheck", inPlace := ["internal/bytealg.IndexByte"], unfollowed := true, recurses := true, named := ["sealwright/digest.round256", "sealwright/image.measured"], apart := false, laid := [("sealwright/digest.round256", laid_sealwright_digest_round256), ("sealwright/image.measured", laid_sealwright_image_measured)], narrowed := true }
def ImageCheckUptoSaid : Prop := imageCheckUptoRow.holds Tryd.pinned (OpenSpec.upto imageCheckSpec)

/-- 'sealwrightlaw25.ImageEncode', WHERE WHAT IT READS IS OF BULK AT MOST 1048576: true; the input reads as it did. -/
def imageEncodeUptoRow : OpenClaim := { program := "yteppchoeiflnhaadoor", sum := "db811ad74c2795a6a8653a8acbe241e4da64860a146c87637a527e87523323e0", func := "sealwright/sealwrightlaw25.ImageEncode", spec := "imageEncode", inPlace := ["internal/bytealg.IndexByte"], unfollowed := true, recurses := true, named := ["sealwright/digest.round256", "sealwright/image.measured"], apart := false, laid := [("sealwright/digest.round256", laid_sealwright_digest_round256), ("sealwright/image.measured", laid_sealwright_image_measured)], narrowed := true }
def ImageEncodeUptoSaid : Prop := imageEncodeUptoRow.holds Tryd.pinned (OpenSpec.upto imageEncodeSpec)

/-- 'sealwrightlaw25.ImageDecode', WHERE WHAT IT READS IS OF BULK AT MOST 1048576: true; the input reads as it did. -/
def imageDecodeUptoRow : OpenClaim := { program := "yteppchoeiflnhaadoor", sum := "db811ad74c2795a6a8653a8acbe241e4da64860a146c87637a527e87523323e0", func := "sealwright/sealwrightlaw25.ImageDecode", spec := "imageDecode", inPlace := ["internal/bytealg.IndexByte"], unfollowed := true, recurses := true, named := ["sealwright/digest.round256", "sealwright/image.measured"], apart := false, laid := [("sealwright/digest.round256", laid_sealwright_digest_round256), ("sealwright/image.measured", laid_sealwright_image_measured)], narrowed := true }
def ImageDecodeUptoSaid : Prop := imageDecodeUptoRow.holds Tryd.pinned (OpenSpec.upto imageDecodeSpec)

/-- 'sealwrightlaw25.ImageDistinct', WHERE WHAT IT READS IS OF BULK AT MOST 1048576: true; the input reads as it did. -/
def imageDistinctUptoRow : OpenClaim := { program := "yteppchoeiflnhaadoor", sum := "db811ad74c2795a6a8653a8acbe241e4da64860a146c87637a527e87523323e0", func := "sealwright/sealwrightlaw25.ImageDistinct", spec := "imageDistinct", inPlace := ["internal/bytealg.IndexByte"], unfollowed := true, recurses := true, named := ["sealwright/digest.round256", "sealwright/image.measured"], apart := false, laid := [("sealwright/digest.round256", laid_sealwright_digest_round256), ("sealwright/image.measured", laid_sealwright_image_measured)], narrowed := true }
def ImageDistinctUptoSaid : Prop := imageDistinctUptoRow.holds Tryd.pinned (OpenSpec.upto imageDistinctSpec)

/-- 'sealwrightlaw25.ImageDigests', WHERE WHAT IT READS IS OF BULK AT MOST 1048576: true; the input reads as it did. -/
def imageDigestsUptoRow : OpenClaim := { program := "yteppchoeiflnhaadoor", sum := "db811ad74c2795a6a8653a8acbe241e4da64860a146c87637a527e87523323e0", func := "sealwright/sealwrightlaw25.ImageDigests", spec := "imageDigests", inPlace := ["internal/bytealg.IndexByte"], unfollowed := true, recurses := true, named := ["sealwright/digest.round256", "sealwright/image.measured"], apart := false, laid := [("sealwright/digest.round256", laid_sealwright_digest_round256), ("sealwright/image.measured", laid_sealwright_image_measured)], narrowed := true }
def ImageDigestsUptoSaid : Prop := imageDigestsUptoRow.holds Tryd.pinned (OpenSpec.upto imageDigestsSpec)

/-- 'sealwrightlaw25.ChainCheck', WHERE WHAT IT READS IS OF BULK AT MOST 1048576: true; the input reads as it did. -/
def chainCheckUptoRow : OpenClaim := { program := "yteppchoeiflnhaadoor", sum := "db811ad74c2795a6a8653a8acbe241e4da64860a146c87637a527e87523323e0", func := "sealwright/sealwrightlaw25.ChainCheck", spec := "chainCheck", inPlace := ["internal/bytealg.IndexByte"], unfollowed := true, recurses := true, named := ["sealwright/digest.round256", "sealwright/image.measured"], apart := false, laid := [("sealwright/digest.round256", laid_sealwright_digest_round256), ("sealwright/image.measured", laid_sealwright_image_measured)], narrowed := true }
def ChainCheckUptoSaid : Prop := chainCheckUptoRow.holds Tryd.pinned (OpenSpec.upto chainCheckSpec)

/-- 'sealwrightlaw25.ChainMany', WHERE WHAT IT READS IS OF BULK AT MOST 1048576: true; the input reads as it did. -/
def chainManyUptoRow : OpenClaim := { program := "yteppchoeiflnhaadoor", sum := "db811ad74c2795a6a8653a8acbe241e4da64860a146c87637a527e87523323e0", func := "sealwright/sealwrightlaw25.ChainMany", spec := "chainMany", inPlace := ["internal/bytealg.IndexByte"], unfollowed := true, recurses := true, named := ["sealwright/digest.round256", "sealwright/image.measured"], apart := false, laid := [("sealwright/digest.round256", laid_sealwright_digest_round256), ("sealwright/image.measured", laid_sealwright_image_measured)], narrowed := true }
def ChainManyUptoSaid : Prop := chainManyUptoRow.holds Tryd.pinned (OpenSpec.upto chainManySpec)

/-- 'sealwrightlaw25.ChainDistinct', WHERE WHAT IT READS IS OF BULK AT MOST 1048576: true; the input reads as it did. -/
def chainDistinctUptoRow : OpenClaim := { program := "yteppchoeiflnhaadoor", sum := "db811ad74c2795a6a8653a8acbe241e4da64860a146c87637a527e87523323e0", func := "sealwright/sealwrightlaw25.ChainDistinct", spec := "chainDistinct", inPlace := ["internal/bytealg.IndexByte"], unfollowed := true, recurses := true, named := ["sealwright/digest.round256", "sealwright/image.measured"], apart := false, laid := [("sealwright/digest.round256", laid_sealwright_digest_round256), ("sealwright/image.measured", laid_sealwright_image_measured)], narrowed := true }
def ChainDistinctUptoSaid : Prop := chainDistinctUptoRow.holds Tryd.pinned (OpenSpec.upto chainDistinctSpec)

/-- 'sealwrightlaw25.ChainCodec', WHERE WHAT IT READS IS OF BULK AT MOST 1048576: true; the input reads as it did. -/
def chainCodecUptoRow : OpenClaim := { program := "yteppchoeiflnhaadoor", sum := "db811ad74c2795a6a8653a8acbe241e4da64860a146c87637a527e87523323e0", func := "sealwright/sealwrightlaw25.ChainCodec", spec := "chainCodec", inPlace := ["internal/bytealg.IndexByte"], unfollowed := true, recurses := true, named := ["sealwright/digest.round256", "sealwright/image.measured"], apart := false, laid := [("sealwright/digest.round256", laid_sealwright_digest_round256), ("sealwright/image.measured", laid_sealwright_image_measured)], narrowed := true }
def ChainCodecUptoSaid : Prop := chainCodecUptoRow.holds Tryd.pinned (OpenSpec.upto chainCodecSpec)

end Rows
end Go.Proofs.YteppchoeiflnhaaDoor
