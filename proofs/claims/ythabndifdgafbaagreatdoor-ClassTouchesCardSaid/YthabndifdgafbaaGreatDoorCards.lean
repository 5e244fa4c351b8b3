/-
  DERIVED. GIVEN WITH THE SEED: THE CARDS: each row of YthabndifdgafbaaGreatDoorRows.lean that lists a variable, with what it lists TIED to the program's text (the seventh form; the later family's looks); each row that meets fmt, with fmt's text TOLD by the authors' own Lean function (tested against real Go, not proved from fmt's source: count such statements apart). THE CARD IS WHAT COUNTS. Prove the row's statement (the work); the ties are given (YthabndifdgafbaaGreatDoorTie.lean); close each card by the builder's one call (the guide's Derived/Test/ToyasCard.lean, 'card_holds'). Laid BY PROGRAM, IN A SANDBOX (cutbox-door.mjs). By AI agents, Wed Nov 11 2026. No macro, syntax, notation, axiom, sorry.
-/
import Derived.Test.YthabndifdgafbaaGreatDoorRows
import GoSem.ClaimSeven
namespace Go.Proofs.YthabndifdgafbaaGreatDoor
namespace Rows

/-- THE TIED CARD OF 'transposallaw16.ClassTells'. -/
def classTellsCard : Claim7 := { stood := { row := classTellsRow, standIns := [], harness := (true, "1ed2155a8cb1373e5f80d3136f1e4657c9a99a405fd1f6005f94d7387b20a5f3"), looks := true }, kinds := [], alts := [], laidByText := true, laidKinds := [.data, .data, .data, .sentinel, .sentinel, .data, .data], laidTests := true, laidLooks := .later }
def ClassTellsCardSaid : Prop := Claim7.holds Tryz.pinned (.plain (OpenSpec.ofChange classTellsSpec)) classTellsCard

/-- THE TIED CARD OF 'transposallaw16.ClassParts'. -/
def classPartsCard : Claim7 := { stood := { row := classPartsRow, standIns := [], harness := (true, "1ed2155a8cb1373e5f80d3136f1e4657c9a99a405fd1f6005f94d7387b20a5f3"), looks := true }, kinds := [], alts := [], laidByText := true, laidKinds := [.data, .data, .data, .sentinel, .sentinel, .data, .data], laidTests := true, laidLooks := .later }
def ClassPartsCardSaid : Prop := Claim7.holds Tryz.pinned (.plain (OpenSpec.ofChange classPartsSpec)) classPartsCard

/-- THE TIED CARD OF 'transposallaw16.ClassTouches'. -/
def classTouchesCard : Claim7 := { stood := { row := classTouchesRow, standIns := [], harness := (true, "1ed2155a8cb1373e5f80d3136f1e4657c9a99a405fd1f6005f94d7387b20a5f3"), looks := true }, kinds := [], alts := [], laidByText := true, laidKinds := [.data, .data, .data, .sentinel, .sentinel, .data, .data], laidTests := true, laidLooks := .later }
def ClassTouchesCardSaid : Prop := Claim7.holds Tryz.pinned (.plain (OpenSpec.ofChange classTouchesSpec)) classTouchesCard

/-- THE TIED CARD OF 'transposallaw17.ImageOf'. -/
def imageOfCard : Claim7 := { stood := { row := imageOfRow, standIns := [], harness := (true, "1ed2155a8cb1373e5f80d3136f1e4657c9a99a405fd1f6005f94d7387b20a5f3"), looks := true }, kinds := [], alts := [], laidByText := true, laidKinds := [.data, .data, .data, .sentinel, .sentinel, .data, .data], laidTests := true, laidLooks := .later }
def ImageOfCardSaid : Prop := Claim7.holds Tryz.pinned (.plain (OpenSpec.ofChange imageOfSpec)) imageOfCard

/-- THE TIED CARD OF 'transposallaw17.ImageAll'. -/
def imageAllCard : Claim7 := { stood := { row := imageAllRow, standIns := [], harness := (true, "1ed2155a8cb1373e5f80d3136f1e4657c9a99a405fd1f6005f94d7387b20a5f3"), looks := true }, kinds := [], alts := [], laidByText := true, laidKinds := [.data, .data, .data, .sentinel, .sentinel, .data, .data], laidTests := true, laidLooks := .later }
def ImageAllCardSaid : Prop := Claim7.holds Tryz.pinned (.plain (OpenSpec.ofChange imageAllSpec)) imageAllCard

/-- THE TIED CARD OF 'transposallaw17.ImageSums'. -/
def imageSumsCard : Claim7 := { stood := { row := imageSumsRow, standIns := [], harness := (true, "1ed2155a8cb1373e5f80d3136f1e4657c9a99a405fd1f6005f94d7387b20a5f3"), looks := true }, kinds := [], alts := [], laidByText := true, laidKinds := [.data, .data, .data, .sentinel, .sentinel, .data, .data], laidTests := true, laidLooks := .later }
def ImageSumsCardSaid : Prop := Claim7.holds Tryz.pinned (.plain (OpenSpec.ofChange imageSumsSpec)) imageSumsCard

/-- THE TIED CARD OF 'transposallaw17.ImageParts'. -/
def imagePartsCard : Claim7 := { stood := { row := imagePartsRow, standIns := [], harness := (true, "1ed2155a8cb1373e5f80d3136f1e4657c9a99a405fd1f6005f94d7387b20a5f3"), looks := true }, kinds := [], alts := [], laidByText := true, laidKinds := [.data, .data, .data, .sentinel, .sentinel, .data, .data], laidTests := true, laidLooks := .later }
def ImagePartsCardSaid : Prop := Claim7.holds Tryz.pinned (.plain (OpenSpec.ofChange imagePartsSpec)) imagePartsCard

/-- THE TIED CARD OF 'transposallaw17.ImageBack'. -/
def imageBackCard : Claim7 := { stood := { row := imageBackRow, standIns := [], harness := (true, "1ed2155a8cb1373e5f80d3136f1e4657c9a99a405fd1f6005f94d7387b20a5f3"), looks := true }, kinds := [], alts := [], laidByText := true, laidKinds := [.data, .data, .data, .sentinel, .sentinel, .data, .data], laidTests := true, laidLooks := .later }
def ImageBackCardSaid : Prop := Claim7.holds Tryz.pinned (.plain (OpenSpec.ofChange imageBackSpec)) imageBackCard

/-- THE SECOND FORM's CARD OF 'transposallaw16.ClassTells'. -/
def classTellsUptoCard : Claim7 := { stood := { row := classTellsUptoRow, standIns := [], harness := (true, "1ed2155a8cb1373e5f80d3136f1e4657c9a99a405fd1f6005f94d7387b20a5f3"), looks := true }, kinds := [], alts := [], laidByText := true, laidKinds := [.data, .data, .data, .sentinel, .sentinel, .data, .data], laidTests := true, laidLooks := .later }
def ClassTellsUptoCardSaid : Prop := Claim7.holds Tryz.pinned (.plain (OpenSpec.upto classTellsSpec)) classTellsUptoCard

/-- THE SECOND FORM's CARD OF 'transposallaw16.ClassParts'. -/
def classPartsUptoCard : Claim7 := { stood := { row := classPartsUptoRow, standIns := [], harness := (true, "1ed2155a8cb1373e5f80d3136f1e4657c9a99a405fd1f6005f94d7387b20a5f3"), looks := true }, kinds := [], alts := [], laidByText := true, laidKinds := [.data, .data, .data, .sentinel, .sentinel, .data, .data], laidTests := true, laidLooks := .later }
def ClassPartsUptoCardSaid : Prop := Claim7.holds Tryz.pinned (.plain (OpenSpec.upto classPartsSpec)) classPartsUptoCard

/-- THE SECOND FORM's CARD OF 'transposallaw16.ClassTouches'. -/
def classTouchesUptoCard : Claim7 := { stood := { row := classTouchesUptoRow, standIns := [], harness := (true, "1ed2155a8cb1373e5f80d3136f1e4657c9a99a405fd1f6005f94d7387b20a5f3"), looks := true }, kinds := [], alts := [], laidByText := true, laidKinds := [.data, .data, .data, .sentinel, .sentinel, .data, .data], laidTests := true, laidLooks := .later }
def ClassTouchesUptoCardSaid : Prop := Claim7.holds Tryz.pinned (.plain (OpenSpec.upto classTouchesSpec)) classTouchesUptoCard

/-- THE SECOND FORM's CARD OF 'transposallaw17.ImageOf'. -/
def imageOfUptoCard : Claim7 := { stood := { row := imageOfUptoRow, standIns := [], harness := (true, "1ed2155a8cb1373e5f80d3136f1e4657c9a99a405fd1f6005f94d7387b20a5f3"), looks := true }, kinds := [], alts := [], laidByText := true, laidKinds := [.data, .data, .data, .sentinel, .sentinel, .data, .data], laidTests := true, laidLooks := .later }
def ImageOfUptoCardSaid : Prop := Claim7.holds Tryz.pinned (.plain (OpenSpec.upto imageOfSpec)) imageOfUptoCard

/-- THE SECOND FORM's CARD OF 'transposallaw17.ImageAll'. -/
def imageAllUptoCard : Claim7 := { stood := { row := imageAllUptoRow, standIns := [], harness := (true, "1ed2155a8cb1373e5f80d3136f1e4657c9a99a405fd1f6005f94d7387b20a5f3"), looks := true }, kinds := [], alts := [], laidByText := true, laidKinds := [.data, .data, .data, .sentinel, .sentinel, .data, .data], laidTests := true, laidLooks := .later }
def ImageAllUptoCardSaid : Prop := Claim7.holds Tryz.pinned (.plain (OpenSpec.upto imageAllSpec)) imageAllUptoCard

/-- THE SECOND FORM's CARD OF 'transposallaw17.ImageSums'. -/
def imageSumsUptoCard : Claim7 := { stood := { row := imageSumsUptoRow, standIns := [], harness := (true, "1ed2155a8cb1373e5f80d3136f1e4657c9a99a405fd1f6005f94d7387b20a5f3"), looks := true }, kinds := [], alts := [], laidByText := true, laidKinds := [.data, .data, .data, .sentinel, .sentinel, .data, .data], laidTests := true, laidLooks := .later }
def ImageSumsUptoCardSaid : Prop := Claim7.holds Tryz.pinned (.plain (OpenSpec.upto imageSumsSpec)) imageSumsUptoCard

/-- THE SECOND FORM's CARD OF 'transposallaw17.ImageParts'. -/
def imagePartsUptoCard : Claim7 := { stood := { row := imagePartsUptoRow, standIns := [], harness := (true, "1ed2155a8cb1373e5f80d3136f1e4657c9a99a405fd1f6005f94d7387b20a5f3"), looks := true }, kinds := [], alts := [], laidByText := true, laidKinds := [.data, .data, .data, .sentinel, .sentinel, .data, .data], laidTests := true, laidLooks := .later }
def ImagePartsUptoCardSaid : Prop := Claim7.holds Tryz.pinned (.plain (OpenSpec.upto imagePartsSpec)) imagePartsUptoCard

/-- THE SECOND FORM's CARD OF 'transposallaw17.ImageBack'. -/
def imageBackUptoCard : Claim7 := { stood := { row := imageBackUptoRow, standIns := [], harness := (true, "1ed2155a8cb1373e5f80d3136f1e4657c9a99a405fd1f6005f94d7387b20a5f3"), looks := true }, kinds := [], alts := [], laidByText := true, laidKinds := [.data, .data, .data, .sentinel, .sentinel, .data, .data], laidTests := true, laidLooks := .later }
def ImageBackUptoCardSaid : Prop := Claim7.holds Tryz.pinned (.plain (OpenSpec.upto imageBackSpec)) imageBackUptoCard
end Rows
end Go.Proofs.YthabndifdgafbaaGreatDoor
