/-
  DERIVED. GIVEN WITH THE SEED: THE CARDS: each row of YteppchoeiflnhaaDoorRows.lean that lists a variable, with what it lists TIED to the program's text (the seventh form; the later family's looks); each row that meets fmt, with fmt's text TOLD by the authors' own Lean function (tested against real Go, not proved from fmt's source: count such statements apart). THE CARD IS WHAT COUNTS. Prove the row's statement (the work); the ties are given (YteppchoeiflnhaaDoorTie.lean); close each card by the builder's one call (the guide's Derived/Test/ToyasCard.lean, 'card_holds'). Laid BY PROGRAM, IN A SANDBOX (cutbox-door.mjs). By AI agents, Wed Nov 11 2026. No macro, syntax, notation, axiom, sorry.
-/
import Derived.Test.YteppchoeiflnhaaDoorRows
import GoSem.ClaimSeven
namespace Go.Proofs.YteppchoeiflnhaaDoor
namespace Rows

/-- THE TIED CARD OF 'sealwrightlaw25.ImageLines'. -/
def imageLinesCard : Claim7 := { stood := { row := imageLinesRow, standIns := [], harness := (true, "c531fb825760b8a8c51e61c858fbf2ef68512687cc6edbc410d9af1d04c2df47"), looks := false }, kinds := [], alts := [], laidByText := true, laidKinds := [.data, .data], laidTests := true, laidLooks := .later }
def ImageLinesCardSaid : Prop := Claim7.holds Tryd.pinned (.plain (OpenSpec.ofChange imageLinesSpec)) imageLinesCard

/-- THE TIED CARD OF 'sealwrightlaw25.ImageCheck'. -/
def imageCheckCard : Claim7 := { stood := { row := imageCheckRow, standIns := [], harness := (true, "c531fb825760b8a8c51e61c858fbf2ef68512687cc6edbc410d9af1d04c2df47"), looks := false }, kinds := [], alts := [], laidByText := true, laidKinds := [.data, .data], laidTests := true, laidLooks := .later }
def ImageCheckCardSaid : Prop := Claim7.holds Tryd.pinned (.plain (OpenSpec.ofChange imageCheckSpec)) imageCheckCard

/-- THE TIED CARD OF 'sealwrightlaw25.ImageEncode'. -/
def imageEncodeCard : Claim7 := { stood := { row := imageEncodeRow, standIns := [], harness := (true, "c531fb825760b8a8c51e61c858fbf2ef68512687cc6edbc410d9af1d04c2df47"), looks := false }, kinds := [], alts := [], laidByText := true, laidKinds := [.data, .data], laidTests := true, laidLooks := .later }
def ImageEncodeCardSaid : Prop := Claim7.holds Tryd.pinned (.plain (OpenSpec.ofChange imageEncodeSpec)) imageEncodeCard

/-- THE TIED CARD OF 'sealwrightlaw25.ImageDecode'. -/
def imageDecodeCard : Claim7 := { stood := { row := imageDecodeRow, standIns := [], harness := (true, "c531fb825760b8a8c51e61c858fbf2ef68512687cc6edbc410d9af1d04c2df47"), looks := false }, kinds := [], alts := [], laidByText := true, laidKinds := [.data, .data], laidTests := true, laidLooks := .later }
def ImageDecodeCardSaid : Prop := Claim7.holds Tryd.pinned (.plain (OpenSpec.ofChange imageDecodeSpec)) imageDecodeCard

/-- THE TIED CARD OF 'sealwrightlaw25.ImageDistinct'. -/
def imageDistinctCard : Claim7 := { stood := { row := imageDistinctRow, standIns := [], harness := (true, "c531fb825760b8a8c51e61c858fbf2ef68512687cc6edbc410d9af1d04c2df47"), looks := false }, kinds := [], alts := [], laidByText := true, laidKinds := [.data, .data], laidTests := true, laidLooks := .later }
def ImageDistinctCardSaid : Prop := Claim7.holds Tryd.pinned (.plain (OpenSpec.ofChange imageDistinctSpec)) imageDistinctCard

/-- THE TIED CARD OF 'sealwrightlaw25.ImageDigests'. -/
def imageDigestsCard : Claim7 := { stood := { row := imageDigestsRow, standIns := [], harness := (true, "c531fb825760b8a8c51e61c858fbf2ef68512687cc6edbc410d9af1d04c2df47"), looks := false }, kinds := [], alts := [], laidByText := true, laidKinds := [.data, .data], laidTests := true, laidLooks := .later }
def ImageDigestsCardSaid : Prop := Claim7.holds Tryd.pinned (.plain (OpenSpec.ofChange imageDigestsSpec)) imageDigestsCard

/-- THE TIED CARD OF 'sealwrightlaw25.ChainCheck'. -/
def chainCheckCard : Claim7 := { stood := { row := chainCheckRow, standIns := [], harness := (true, "c531fb825760b8a8c51e61c858fbf2ef68512687cc6edbc410d9af1d04c2df47"), looks := false }, kinds := [], alts := [], laidByText := true, laidKinds := [.data, .data], laidTests := true, laidLooks := .later }
def ChainCheckCardSaid : Prop := Claim7.holds Tryd.pinned (.plain (OpenSpec.ofChange chainCheckSpec)) chainCheckCard

/-- THE TIED CARD OF 'sealwrightlaw25.ChainMany'. -/
def chainManyCard : Claim7 := { stood := { row := chainManyRow, standIns := [], harness := (true, "c531fb825760b8a8c51e61c858fbf2ef68512687cc6edbc410d9af1d04c2df47"), looks := false }, kinds := [], alts := [], laidByText := true, laidKinds := [.data, .data], laidTests := true, laidLooks := .later }
def ChainManyCardSaid : Prop := Claim7.holds Tryd.pinned (.plain (OpenSpec.ofChange chainManySpec)) chainManyCard

/-- THE TIED CARD OF 'sealwrightlaw25.ChainDistinct'. -/
def chainDistinctCard : Claim7 := { stood := { row := chainDistinctRow, standIns := [], harness := (true, "c531fb825760b8a8c51e61c858fbf2ef68512687cc6edbc410d9af1d04c2df47"), looks := false }, kinds := [], alts := [], laidByText := true, laidKinds := [.data, .data], laidTests := true, laidLooks := .later }
def ChainDistinctCardSaid : Prop := Claim7.holds Tryd.pinned (.plain (OpenSpec.ofChange chainDistinctSpec)) chainDistinctCard

/-- THE TIED CARD OF 'sealwrightlaw25.ChainCodec'. -/
def chainCodecCard : Claim7 := { stood := { row := chainCodecRow, standIns := [], harness := (true, "c531fb825760b8a8c51e61c858fbf2ef68512687cc6edbc410d9af1d04c2df47"), looks := false }, kinds := [], alts := [], laidByText := true, laidKinds := [.data, .data], laidTests := true, laidLooks := .later }
def ChainCodecCardSaid : Prop := Claim7.holds Tryd.pinned (.plain (OpenSpec.ofChange chainCodecSpec)) chainCodecCard

/-- THE SECOND FORM's CARD OF 'sealwrightlaw25.ImageLines'. -/
def imageLinesUptoCard : Claim7 := { stood := { row := imageLinesUptoRow, standIns := [], harness := (true, "c531fb825760b8a8c51e61c858fbf2ef68512687cc6edbc410d9af1d04c2df47"), looks := false }, kinds := [], alts := [], laidByText := true, laidKinds := [.data, .data], laidTests := true, laidLooks := .later }
def ImageLinesUptoCardSaid : Prop := Claim7.holds Tryd.pinned (.plain (OpenSpec.upto imageLinesSpec)) imageLinesUptoCard

/-- THE SECOND FORM's CARD OF 'sealwrightlaw25.ImageCheck'. -/
def imageCheckUptoCard : Claim7 := { stood := { row := imageCheckUptoRow, standIns := [], harness := (true, "c531fb825760b8a8c51e61c858fbf2ef68512687cc6edbc410d9af1d04c2df47"), looks := false }, kinds := [], alts := [], laidByText := true, laidKinds := [.data, .data], laidTests := true, laidLooks := .later }
def ImageCheckUptoCardSaid : Prop := Claim7.holds Tryd.pinned (.plain (OpenSpec.upto imageCheckSpec)) imageCheckUptoCard

/-- THE SECOND FORM's CARD OF 'sealwrightlaw25.ImageEncode'. -/
def imageEncodeUptoCard : Claim7 := { stood := { row := imageEncodeUptoRow, standIns := [], harness := (true, "c531fb825760b8a8c51e61c858fbf2ef68512687cc6edbc410d9af1d04c2df47"), looks := false }, kinds := [], alts := [], laidByText := true, laidKinds := [.data, .data], laidTests := true, laidLooks := .later }
def ImageEncodeUptoCardSaid : Prop := Claim7.holds Tryd.pinned (.plain (OpenSpec.upto imageEncodeSpec)) imageEncodeUptoCard

/-- THE SECOND FORM's CARD OF 'sealwrightlaw25.ImageDecode'. -/
def imageDecodeUptoCard : Claim7 := { stood := { row := imageDecodeUptoRow, standIns := [], harness := (true, "c531fb825760b8a8c51e61c858fbf2ef68512687cc6edbc410d9af1d04c2df47"), looks := false }, kinds := [], alts := [], laidByText := true, laidKinds := [.data, .data], laidTests := true, laidLooks := .later }
def ImageDecodeUptoCardSaid : Prop := Claim7.holds Tryd.pinned (.plain (OpenSpec.upto imageDecodeSpec)) imageDecodeUptoCard

/-- THE SECOND FORM's CARD OF 'sealwrightlaw25.ImageDistinct'. -/
def imageDistinctUptoCard : Claim7 := { stood := { row := imageDistinctUptoRow, standIns := [], harness := (true, "c531fb825760b8a8c51e61c858fbf2ef68512687cc6edbc410d9af1d04c2df47"), looks := false }, kinds := [], alts := [], laidByText := true, laidKinds := [.data, .data], laidTests := true, laidLooks := .later }
def ImageDistinctUptoCardSaid : Prop := Claim7.holds Tryd.pinned (.plain (OpenSpec.upto imageDistinctSpec)) imageDistinctUptoCard

/-- THE SECOND FORM's CARD OF 'sealwrightlaw25.ImageDigests'. -/
def imageDigestsUptoCard : Claim7 := { stood := { row := imageDigestsUptoRow, standIns := [], harness := (true, "c531fb825760b8a8c51e61c858fbf2ef68512687cc6edbc410d9af1d04c2df47"), looks := false }, kinds := [], alts := [], laidByText := true, laidKinds := [.data, .data], laidTests := true, laidLooks := .later }
def ImageDigestsUptoCardSaid : Prop := Claim7.holds Tryd.pinned (.plain (OpenSpec.upto imageDigestsSpec)) imageDigestsUptoCard

/-- THE SECOND FORM's CARD OF 'sealwrightlaw25.ChainCheck'. -/
def chainCheckUptoCard : Claim7 := { stood := { row := chainCheckUptoRow, standIns := [], harness := (true, "c531fb825760b8a8c51e61c858fbf2ef68512687cc6edbc410d9af1d04c2df47"), looks := false }, kinds := [], alts := [], laidByText := true, laidKinds := [.data, .data], laidTests := true, laidLooks := .later }
def ChainCheckUptoCardSaid : Prop := Claim7.holds Tryd.pinned (.plain (OpenSpec.upto chainCheckSpec)) chainCheckUptoCard

/-- THE SECOND FORM's CARD OF 'sealwrightlaw25.ChainMany'. -/
def chainManyUptoCard : Claim7 := { stood := { row := chainManyUptoRow, standIns := [], harness := (true, "c531fb825760b8a8c51e61c858fbf2ef68512687cc6edbc410d9af1d04c2df47"), looks := false }, kinds := [], alts := [], laidByText := true, laidKinds := [.data, .data], laidTests := true, laidLooks := .later }
def ChainManyUptoCardSaid : Prop := Claim7.holds Tryd.pinned (.plain (OpenSpec.upto chainManySpec)) chainManyUptoCard

/-- THE SECOND FORM's CARD OF 'sealwrightlaw25.ChainDistinct'. -/
def chainDistinctUptoCard : Claim7 := { stood := { row := chainDistinctUptoRow, standIns := [], harness := (true, "c531fb825760b8a8c51e61c858fbf2ef68512687cc6edbc410d9af1d04c2df47"), looks := false }, kinds := [], alts := [], laidByText := true, laidKinds := [.data, .data], laidTests := true, laidLooks := .later }
def ChainDistinctUptoCardSaid : Prop := Claim7.holds Tryd.pinned (.plain (OpenSpec.upto chainDistinctSpec)) chainDistinctUptoCard

/-- THE SECOND FORM's CARD OF 'sealwrightlaw25.ChainCodec'. -/
def chainCodecUptoCard : Claim7 := { stood := { row := chainCodecUptoRow, standIns := [], harness := (true, "c531fb825760b8a8c51e61c858fbf2ef68512687cc6edbc410d9af1d04c2df47"), looks := false }, kinds := [], alts := [], laidByText := true, laidKinds := [.data, .data], laidTests := true, laidLooks := .later }
def ChainCodecUptoCardSaid : Prop := Claim7.holds Tryd.pinned (.plain (OpenSpec.upto chainCodecSpec)) chainCodecUptoCard
end Rows
end Go.Proofs.YteppchoeiflnhaaDoor
