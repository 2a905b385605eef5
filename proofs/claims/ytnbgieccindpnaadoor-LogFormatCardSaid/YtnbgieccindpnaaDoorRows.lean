/-
  NARROWER THAN 'FOR EVERY INPUT', by the rows' own cells (each row's printed sentence says how): LogFull: laid · LogPrefix: laid · LogHeader: laid · LogAdd: laid · LogIntact: laid · LogFormat: laid · LogParse: laid.
  DERIVED. THE GIVEN ROWS OF THIS SEAT. 7 by the template 'for every input the law returns true; each argument reads behind the call as it read before'; 0 by the template 'total and deterministic' (their statements: YtnbgieccindpnaaDoorTotals.lean).
  GIVEN WITH THE SEED: the statements are not yours to turn. If you find one false, say at which input.
  Laid BY PROGRAM, IN A SANDBOX (cutbox-rows.mjs): the forced cells as the released guide's own fill.sh prints them over the translation 391142d9f7ab4c7d… (all of the seat's roots in one cut). By AI agents, Wed Nov 11 2026. No macro, syntax, notation, axiom, sorry.
-/
import Derived.Test.YtnbgieccindpnaaDoorChecked
import GoSem.Claim
import GoSem.ClaimJoined
import GoSem.ClaimMapViews
import Derived.JoinedTies
import Derived.KernelRfl
namespace Go.Proofs.YtnbgieccindpnaaDoor
/- THE CELL 'sum', in the pinned program and in every row, IS THE sha256 OF THE DUMP (.gsa) THAT YtnbgieccindpnaaDoorProg.lean LOADS. Nothing in Lean hashes anything: it is a label: what it is worth is what the hold of that sum in a sandbox is worth. -/
noncomputable def Tryd.pinned : Pinned := { name := "ytnbgieccindpnaadoor", sum := "391142d9f7ab4c7dadac9dfc460eed25c125d199c4f329309a480c887208dca1", checked := Tryd.checked }
namespace Rows
def none {H : Type} : Left H := { results := [], args := [] }

/- WHAT THE LISTED PACKAGE-LEVEL VARIABLES READ AS WHEN THE CALL BEGINS. Each datum BY PROGRAM (the guide's laid-datum.mjs) off the statement by which the dump's own 'gosem.cut.vars' lays the variable. In a bare row this is a premise. The card (YtnbgieccindpnaaDoorCards.lean) ties it to the program's text. -/
def laid_sealwright_digest_round256 {H : Type} : DataW H := .agg [.lit (.int .u32 1116352408), .lit (.int .u32 1899447441), .lit (.int .u32 3049323471), .lit (.int .u32 3921009573), .lit (.int .u32 961987163), .lit (.int .u32 1508970993), .lit (.int .u32 2453635748), .lit (.int .u32 2870763221), .lit (.int .u32 3624381080), .lit (.int .u32 310598401), .lit (.int .u32 607225278), .lit (.int .u32 1426881987), .lit (.int .u32 1925078388), .lit (.int .u32 2162078206), .lit (.int .u32 2614888103), .lit (.int .u32 3248222580), .lit (.int .u32 3835390401), .lit (.int .u32 4022224774), .lit (.int .u32 264347078), .lit (.int .u32 604807628), .lit (.int .u32 770255983), .lit (.int .u32 1249150122), .lit (.int .u32 1555081692), .lit (.int .u32 1996064986), .lit (.int .u32 2554220882), .lit (.int .u32 2821834349), .lit (.int .u32 2952996808), .lit (.int .u32 3210313671), .lit (.int .u32 3336571891), .lit (.int .u32 3584528711), .lit (.int .u32 113926993), .lit (.int .u32 338241895), .lit (.int .u32 666307205), .lit (.int .u32 773529912), .lit (.int .u32 1294757372), .lit (.int .u32 1396182291), .lit (.int .u32 1695183700), .lit (.int .u32 1986661051), .lit (.int .u32 2177026350), .lit (.int .u32 2456956037), .lit (.int .u32 2730485921), .lit (.int .u32 2820302411), .lit (.int .u32 3259730800), .lit (.int .u32 3345764771), .lit (.int .u32 3516065817), .lit (.int .u32 3600352804), .lit (.int .u32 4094571909), .lit (.int .u32 275423344), .lit (.int .u32 430227734), .lit (.int .u32 506948616), .lit (.int .u32 659060556), .lit (.int .u32 883997877), .lit (.int .u32 958139571), .lit (.int .u32 1322822218), .lit (.int .u32 1537002063), .lit (.int .u32 1747873779), .lit (.int .u32 1955562222), .lit (.int .u32 2024104815), .lit (.int .u32 2227730452), .lit (.int .u32 2361852424), .lit (.int .u32 2428436474), .lit (.int .u32 2756734187), .lit (.int .u32 3204031479), .lit (.int .u32 3329325298)]

/-- 'sealwrightlaw27.LogFull': WHATEVER THE INPUT: true; the input reads as it did. -/
def logFullSpec : ChangeSpec := { name := "logFull", fn := fun _ => fun
  | [d1, d2, d3] => { results := [.lit (.bool true)], args := [d1, d2, d3] }
  | _ => none }
def logFullRow : OpenClaim := { program := "ytnbgieccindpnaadoor", sum := "391142d9f7ab4c7dadac9dfc460eed25c125d199c4f329309a480c887208dca1", func := "sealwright/sealwrightlaw27.LogFull", spec := "logFull", unfollowed := true, recurses := true, named := ["sealwright/digest.round256"], apart := false, laid := [("sealwright/digest.round256", laid_sealwright_digest_round256)] }
def LogFullSaid : Prop := logFullRow.holds Tryd.pinned (OpenSpec.ofChange logFullSpec)

/-- ITS FALSE NEIGHBOUR: 'it returns false'. Refute it at one input. -/
def logFullWrong : ChangeSpec := { name := "logFull", fn := fun _ => fun
  | [d1, d2, d3] => { results := [.lit (.bool false)], args := [d1, d2, d3] }
  | _ => none }
def LogFullWrongFalsely : Prop := logFullRow.holds Tryd.pinned (OpenSpec.ofChange logFullWrong)

/-- 'sealwrightlaw27.LogPrefix': WHATEVER THE INPUT: true; the input reads as it did. -/
def logPrefixSpec : ChangeSpec := { name := "logPrefix", fn := fun _ => fun
  | [d1, d2, d3, d4] => { results := [.lit (.bool true)], args := [d1, d2, d3, d4] }
  | _ => none }
def logPrefixRow : OpenClaim := { program := "ytnbgieccindpnaadoor", sum := "391142d9f7ab4c7dadac9dfc460eed25c125d199c4f329309a480c887208dca1", func := "sealwright/sealwrightlaw27.LogPrefix", spec := "logPrefix", unfollowed := true, recurses := true, named := ["sealwright/digest.round256"], apart := false, laid := [("sealwright/digest.round256", laid_sealwright_digest_round256)] }
def LogPrefixSaid : Prop := logPrefixRow.holds Tryd.pinned (OpenSpec.ofChange logPrefixSpec)

/-- ITS FALSE NEIGHBOUR: 'it returns false'. Refute it at one input. -/
def logPrefixWrong : ChangeSpec := { name := "logPrefix", fn := fun _ => fun
  | [d1, d2, d3, d4] => { results := [.lit (.bool false)], args := [d1, d2, d3, d4] }
  | _ => none }
def LogPrefixWrongFalsely : Prop := logPrefixRow.holds Tryd.pinned (OpenSpec.ofChange logPrefixWrong)

/-- 'sealwrightlaw27.LogHeader': WHATEVER THE INPUT: true; the input reads as it did. -/
def logHeaderSpec : ChangeSpec := { name := "logHeader", fn := fun _ => fun
  | [d1, d2, d3] => { results := [.lit (.bool true)], args := [d1, d2, d3] }
  | _ => none }
def logHeaderRow : OpenClaim := { program := "ytnbgieccindpnaadoor", sum := "391142d9f7ab4c7dadac9dfc460eed25c125d199c4f329309a480c887208dca1", func := "sealwright/sealwrightlaw27.LogHeader", spec := "logHeader", unfollowed := true, recurses := true, named := ["sealwright/digest.round256"], apart := false, laid := [("sealwright/digest.round256", laid_sealwright_digest_round256)] }
def LogHeaderSaid : Prop := logHeaderRow.holds Tryd.pinned (OpenSpec.ofChange logHeaderSpec)

/-- ITS FALSE NEIGHBOUR: 'it returns false'. Refute it at one input. -/
def logHeaderWrong : ChangeSpec := { name := "logHeader", fn := fun _ => fun
  | [d1, d2, d3] => { results := [.lit (.bool false)], args := [d1, d2, d3] }
  | _ => none }
def LogHeaderWrongFalsely : Prop := logHeaderRow.holds Tryd.pinned (OpenSpec.ofChange logHeaderWrong)

/-- 'sealwrightlaw27.LogAdd': WHATEVER THE INPUT: true; the input reads as it did. -/
def logAddSpec : ChangeSpec := { name := "logAdd", fn := fun _ => fun
  | [d1, d2, d3, d4, d5, d6, d7, d8] => { results := [.lit (.bool true)], args := [d1, d2, d3, d4, d5, d6, d7, d8] }
  | _ => none }
def logAddRow : OpenClaim := { program := "ytnbgieccindpnaadoor", sum := "391142d9f7ab4c7dadac9dfc460eed25c125d199c4f329309a480c887208dca1", func := "sealwright/sealwrightlaw27.LogAdd", spec := "logAdd", unfollowed := true, recurses := true, named := ["sealwright/digest.round256"], apart := false, laid := [("sealwright/digest.round256", laid_sealwright_digest_round256)] }
def LogAddSaid : Prop := logAddRow.holds Tryd.pinned (OpenSpec.ofChange logAddSpec)

/-- ITS FALSE NEIGHBOUR: 'it returns false'. Refute it at one input. -/
def logAddWrong : ChangeSpec := { name := "logAdd", fn := fun _ => fun
  | [d1, d2, d3, d4, d5, d6, d7, d8] => { results := [.lit (.bool false)], args := [d1, d2, d3, d4, d5, d6, d7, d8] }
  | _ => none }
def LogAddWrongFalsely : Prop := logAddRow.holds Tryd.pinned (OpenSpec.ofChange logAddWrong)

/-- 'sealwrightlaw27.LogIntact': WHATEVER THE INPUT: true; the input reads as it did. -/
def logIntactSpec : ChangeSpec := { name := "logIntact", fn := fun _ => fun
  | [d1, d2, d3, d4, d5, d6, d7, d8] => { results := [.lit (.bool true)], args := [d1, d2, d3, d4, d5, d6, d7, d8] }
  | _ => none }
def logIntactRow : OpenClaim := { program := "ytnbgieccindpnaadoor", sum := "391142d9f7ab4c7dadac9dfc460eed25c125d199c4f329309a480c887208dca1", func := "sealwright/sealwrightlaw27.LogIntact", spec := "logIntact", unfollowed := true, recurses := true, named := ["sealwright/digest.round256"], apart := false, laid := [("sealwright/digest.round256", laid_sealwright_digest_round256)] }
def LogIntactSaid : Prop := logIntactRow.holds Tryd.pinned (OpenSpec.ofChange logIntactSpec)

/-- ITS FALSE NEIGHBOUR: 'it returns false'. Refute it at one input. -/
def logIntactWrong : ChangeSpec := { name := "logIntact", fn := fun _ => fun
  | [d1, d2, d3, d4, d5, d6, d7, d8] => { results := [.lit (.bool false)], args := [d1, d2, d3, d4, d5, d6, d7, d8] }
  | _ => none }
def LogIntactWrongFalsely : Prop := logIntactRow.holds Tryd.pinned (OpenSpec.ofChange logIntactWrong)

/-- 'sealwrightlaw27.LogFormat': WHATEVER THE INPUT: true; the input reads as it did. -/
def logFormatSpec : ChangeSpec := { name := "logFormat", fn := fun _ => fun
  | [d1, d2, d3, d4] => { results := [.lit (.bool true)], args := [d1, d2, d3, d4] }
  | _ => none }
def logFormatRow : OpenClaim := { program := "ytnbgieccindpnaadoor", sum := "391142d9f7ab4c7dadac9dfc460eed25c125d199c4f329309a480c887208dca1", func := "sealwright/sealwrightlaw27.LogFormat", spec := "logFormat", unfollowed := true, recurses := true, named := ["sealwright/digest.round256"], apart := false, laid := [("sealwright/digest.round256", laid_sealwright_digest_round256)] }
def LogFormatSaid : Prop := logFormatRow.holds Tryd.pinned (OpenSpec.ofChange logFormatSpec)

/-- ITS FALSE NEIGHBOUR: 'it returns false'. Refute it at one input. -/
def logFormatWrong : ChangeSpec := { name := "logFormat", fn := fun _ => fun
  | [d1, d2, d3, d4] => { results := [.lit (.bool false)], args := [d1, d2, d3, d4] }
  | _ => none }
def LogFormatWrongFalsely : Prop := logFormatRow.holds Tryd.pinned (OpenSpec.ofChange logFormatWrong)

/-- 'sealwrightlaw27.LogParse': WHATEVER THE INPUT: true; the input reads as it did. -/
def logParseSpec : ChangeSpec := { name := "logParse", fn := fun _ => fun
  | [d1, d2, d3, d4, d5, d6, d7, d8] => { results := [.lit (.bool true)], args := [d1, d2, d3, d4, d5, d6, d7, d8] }
  | _ => none }
def logParseRow : OpenClaim := { program := "ytnbgieccindpnaadoor", sum := "391142d9f7ab4c7dadac9dfc460eed25c125d199c4f329309a480c887208dca1", func := "sealwright/sealwrightlaw27.LogParse", spec := "logParse", unfollowed := true, recurses := true, named := ["sealwright/digest.round256"], apart := false, laid := [("sealwright/digest.round256", laid_sealwright_digest_round256)] }
def LogParseSaid : Prop := logParseRow.holds Tryd.pinned (OpenSpec.ofChange logParseSpec)

/-- ITS FALSE NEIGHBOUR: 'it returns false'. Refute it at one input. -/
def logParseWrong : ChangeSpec := { name := "logParse", fn := fun _ => fun
  | [d1, d2, d3, d4, d5, d6, d7, d8] => { results := [.lit (.bool false)], args := [d1, d2, d3, d4, d5, d6, d7, d8] }
  | _ => none }
def LogParseWrongFalsely : Prop := logParseRow.holds Tryd.pinned (OpenSpec.ofChange logParseWrong)

/- THE SECOND FORM. 'bulk': how many values and letters a reading holds, each counted each time it is reached (what is shared counts as often as it is met; a slice's spare places count too). A statement '..UptoSaid' is the law's where the arguments, and the package variables that the reading takes, are together of bulk at most 1048576: NARROWER than '..Said'. Prove '..Said' where nothing that the law and all that it calls make is longer than what came in: it says more and counts as full. Else prove '..UptoSaid'. A law counts once. -/
mutual
def uptoBulk {H : Type} : DataW H → Nat
  | .lit (.string bytes) => bytes.length + 1
  | .lit _ => 1
  | .nil => 1
  | .ptr d => uptoBulk d + 1
  | .slice elems spare => uptoBulkAll elems + uptoBulkAll spare + 1
  | .agg parts => uptoBulkAll parts + 1
  | .iface _ d => uptoBulk d + 1
  | .map entries => uptoBulkEntries entries + 1
  | .held _ => 1
def uptoBulkAll {H : Type} : List (DataW H) → Nat
  | [] => 0
  | d :: r => uptoBulk d + uptoBulkAll r
def uptoBulkEntries {H : Type} : List (Lit × DataW H) → Nat
  | [] => 0
  | x :: r => uptoBulkEntry x + uptoBulkEntries r
def uptoBulkEntry {H : Type} : Lit × DataW H → Nat
  | (.string bytes, d) => bytes.length + uptoBulk d + 1
  | (_, d) => uptoBulk d + 1
 end
def uptoSmall : (H : Type) → List (DataW H) → Bool := fun _ ds => decide (uptoBulkAll ds ≤ 1048576)
def OpenSpec.upto (s : _root_.Go.ChangeSpec) : _root_.Go.OpenSpec := { _root_.Go.OpenSpec.ofChange s with cond := some uptoSmall }

/-- 'sealwrightlaw27.LogFull', WHERE WHAT IT READS IS OF BULK AT MOST 1048576: true; the input reads as it did. -/
def logFullUptoRow : OpenClaim := { program := "ytnbgieccindpnaadoor", sum := "391142d9f7ab4c7dadac9dfc460eed25c125d199c4f329309a480c887208dca1", func := "sealwright/sealwrightlaw27.LogFull", spec := "logFull", unfollowed := true, recurses := true, named := ["sealwright/digest.round256"], apart := false, laid := [("sealwright/digest.round256", laid_sealwright_digest_round256)], narrowed := true }
def LogFullUptoSaid : Prop := logFullUptoRow.holds Tryd.pinned (OpenSpec.upto logFullSpec)

/-- 'sealwrightlaw27.LogPrefix', WHERE WHAT IT READS IS OF BULK AT MOST 1048576: true; the input reads as it did. -/
def logPrefixUptoRow : OpenClaim := { program := "ytnbgieccindpnaadoor", sum := "391142d9f7ab4c7dadac9dfc460eed25c125d199c4f329309a480c887208dca1", func := "sealwright/sealwrightlaw27.LogPrefix", spec := "logPrefix", unfollowed := true, recurses := true, named := ["sealwright/digest.round256"], apart := false, laid := [("sealwright/digest.round256", laid_sealwright_digest_round256)], narrowed := true }
def LogPrefixUptoSaid : Prop := logPrefixUptoRow.holds Tryd.pinned (OpenSpec.upto logPrefixSpec)

/-- 'sealwrightlaw27.LogHeader', WHERE WHAT IT READS IS OF BULK AT MOST 1048576: true; the input reads as it did. -/
def logHeaderUptoRow : OpenClaim := { program := "ytnbgieccindpnaadoor", sum := "391142d9f7ab4c7dadac9dfc460eed25c125d199c4f329309a480c887208dca1", func := "sealwright/sealwrightlaw27.LogHeader", spec := "logHeader", unfollowed := true, recurses := true, named := ["sealwright/digest.round256"], apart := false, laid := [("sealwright/digest.round256", laid_sealwright_digest_round256)], narrowed := true }
def LogHeaderUptoSaid : Prop := logHeaderUptoRow.holds Tryd.pinned (OpenSpec.upto logHeaderSpec)

/-- 'sealwrightlaw27.LogAdd', WHERE WHAT IT READS IS OF BULK AT MOST 1048576: true; the input reads as it did. -/
def logAddUptoRow : OpenClaim := { program := "ytnbgieccindpnaadoor", sum := "391142d9f7ab4c7dadac9dfc460eed25c125d199c4f329309a480c887208dca1", func := "sealwright/sealwrightlaw27.LogAdd", spec := "logAdd", unfollowed := true, recurses := true, named := ["sealwright/digest.round256"], apart := false, laid := [("sealwright/digest.round256", laid_sealwright_digest_round256)], narrowed := true }
def LogAddUptoSaid : Prop := logAddUptoRow.holds Tryd.pinned (OpenSpec.upto logAddSpec)

/-- 'sealwrightlaw27.LogIntact', WHERE WHAT IT READS IS OF BULK AT MOST 1048576: true; the input reads as it did. -/
def logIntactUptoRow : OpenClaim := { program := "ytnbgieccindpnaadoor", sum := "391142d9f7ab4c7dadac9dfc460eed25c125d199c4f329309a480c887208dca1", func := "sealwright/sealwrightlaw27.LogIntact", spec := "logIntact", unfollowed := true, recurses := true, named := ["sealwright/digest.round256"], apart := false, laid := [("sealwright/digest.round256", laid_sealwright_digest_round256)], narrowed := true }
def LogIntactUptoSaid : Prop := logIntactUptoRow.holds Tryd.pinned (OpenSpec.upto logIntactSpec)

/-- 'sealwrightlaw27.LogFormat', WHERE WHAT IT READS IS OF BULK AT MOST 1048576: true; the input reads as it did. -/
def logFormatUptoRow : OpenClaim := { program := "ytnbgieccindpnaadoor", sum := "391142d9f7ab4c7dadac9dfc460eed25c125d199c4f329309a480c887208dca1", func := "sealwright/sealwrightlaw27.LogFormat", spec := "logFormat", unfollowed := true, recurses := true, named := ["sealwright/digest.round256"], apart := false, laid := [("sealwright/digest.round256", laid_sealwright_digest_round256)], narrowed := true }
def LogFormatUptoSaid : Prop := logFormatUptoRow.holds Tryd.pinned (OpenSpec.upto logFormatSpec)

/-- 'sealwrightlaw27.LogParse', WHERE WHAT IT READS IS OF BULK AT MOST 1048576: true; the input reads as it did. -/
def logParseUptoRow : OpenClaim := { program := "ytnbgieccindpnaadoor", sum := "391142d9f7ab4c7dadac9dfc460eed25c125d199c4f329309a480c887208dca1", func := "sealwright/sealwrightlaw27.LogParse", spec := "logParse", unfollowed := true, recurses := true, named := ["sealwright/digest.round256"], apart := false, laid := [("sealwright/digest.round256", laid_sealwright_digest_round256)], narrowed := true }
def LogParseUptoSaid : Prop := logParseUptoRow.holds Tryd.pinned (OpenSpec.upto logParseSpec)

end Rows
end Go.Proofs.YtnbgieccindpnaaDoor
