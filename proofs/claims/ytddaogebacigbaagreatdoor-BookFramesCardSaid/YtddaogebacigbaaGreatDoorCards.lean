/-
  DERIVED. GIVEN WITH THE SEED: THE CARDS: each row of YtddaogebacigbaaGreatDoorRows.lean that lists a variable, with what it lists TIED to the program's text (the seventh form; the later family's looks); each row that meets fmt, with fmt's text TOLD by the authors' own Lean function (tested against real Go, not proved from fmt's source: count such statements apart). THE CARD IS WHAT COUNTS. Prove the row's statement (the work); the ties are given (YtddaogebacigbaaGreatDoorTie.lean); close each card by the builder's one call (the guide's Derived/Test/ToyasCard.lean, 'card_holds'). Laid BY PROGRAM, IN A SANDBOX (cutbox-door.mjs). By AI agents, Wed Nov 11 2026. No macro, syntax, notation, axiom, sorry.
-/
import Derived.Test.YtddaogebacigbaaGreatDoorRows
import GoSem.ClaimSeven
namespace Go.Proofs.YtddaogebacigbaaGreatDoor
namespace Rows

/-- THE TIED CARD OF 'transposallaw09.EntrySums'. -/
def entrySumsCard : Claim7 := { stood := { row := entrySumsRow, standIns := [], harness := (true, "ad72178ba3f6e0e7c1da1c3f646d37e45a0e17ae27675bab77d52de1c996aa54"), looks := true }, kinds := [], alts := [], laidByText := true, laidKinds := [.data, .data, .data, .sentinel, .sentinel, .data], laidTests := true, laidLooks := .later }
def EntrySumsCardSaid : Prop := Claim7.holds Tryz.pinned (.plain (OpenSpec.ofChange entrySumsSpec)) entrySumsCard

/-- THE TIED CARD OF 'transposallaw09.EntryChecks'. -/
def entryChecksCard : Claim7 := { stood := { row := entryChecksRow, standIns := [], harness := (true, "ad72178ba3f6e0e7c1da1c3f646d37e45a0e17ae27675bab77d52de1c996aa54"), looks := true }, kinds := [], alts := [], laidByText := true, laidKinds := [.data, .data, .data, .sentinel, .sentinel, .data], laidTests := true, laidLooks := .later }
def EntryChecksCardSaid : Prop := Claim7.holds Tryz.pinned (.plain (OpenSpec.ofChange entryChecksSpec)) entryChecksCard

/-- THE TIED CARD OF 'transposallaw09.EntryTurns'. -/
def entryTurnsCard : Claim7 := { stood := { row := entryTurnsRow, standIns := [], harness := (true, "ad72178ba3f6e0e7c1da1c3f646d37e45a0e17ae27675bab77d52de1c996aa54"), looks := true }, kinds := [], alts := [], laidByText := true, laidKinds := [.data, .data, .data, .sentinel, .sentinel, .data], laidTests := true, laidLooks := .later }
def EntryTurnsCardSaid : Prop := Claim7.holds Tryz.pinned (.plain (OpenSpec.ofChange entryTurnsSpec)) entryTurnsCard

/-- THE TIED CARD OF 'transposallaw09.EntrySames'. -/
def entrySamesCard : Claim7 := { stood := { row := entrySamesRow, standIns := [], harness := (true, "ad72178ba3f6e0e7c1da1c3f646d37e45a0e17ae27675bab77d52de1c996aa54"), looks := true }, kinds := [], alts := [], laidByText := true, laidKinds := [.data, .data, .data, .sentinel, .sentinel, .data], laidTests := true, laidLooks := .later }
def EntrySamesCardSaid : Prop := Claim7.holds Tryz.pinned (.plain (OpenSpec.ofChange entrySamesSpec)) entrySamesCard

/-- THE TIED CARD OF 'transposallaw10.BookLines'. -/
def bookLinesCard : Claim7 := { stood := { row := bookLinesRow, standIns := [], harness := (true, "ad72178ba3f6e0e7c1da1c3f646d37e45a0e17ae27675bab77d52de1c996aa54"), looks := true }, kinds := [], alts := [], laidByText := true, laidKinds := [.data, .data, .data, .sentinel, .sentinel, .data], laidTests := true, laidLooks := .later }
def BookLinesCardSaid : Prop := Claim7.holds Tryz.pinned (.plain (OpenSpec.ofChange bookLinesSpec)) bookLinesCard

/-- THE TIED CARD OF 'transposallaw10.BookDays'. -/
def bookDaysCard : Claim7 := { stood := { row := bookDaysRow, standIns := [], harness := (true, "ad72178ba3f6e0e7c1da1c3f646d37e45a0e17ae27675bab77d52de1c996aa54"), looks := true }, kinds := [], alts := [], laidByText := true, laidKinds := [.data, .data, .data, .sentinel, .sentinel, .data], laidTests := true, laidLooks := .later }
def BookDaysCardSaid : Prop := Claim7.holds Tryz.pinned (.plain (OpenSpec.ofChange bookDaysSpec)) bookDaysCard

/-- THE TIED CARD OF 'transposallaw10.BookParts'. -/
def bookPartsCard : Claim7 := { stood := { row := bookPartsRow, standIns := [], harness := (true, "ad72178ba3f6e0e7c1da1c3f646d37e45a0e17ae27675bab77d52de1c996aa54"), looks := true }, kinds := [], alts := [], laidByText := true, laidKinds := [.data, .data, .data, .sentinel, .sentinel, .data], laidTests := true, laidLooks := .later }
def BookPartsCardSaid : Prop := Claim7.holds Tryz.pinned (.plain (OpenSpec.ofChange bookPartsSpec)) bookPartsCard

/-- THE TIED CARD OF 'transposallaw10.BookChecks'. -/
def bookChecksCard : Claim7 := { stood := { row := bookChecksRow, standIns := [], harness := (true, "ad72178ba3f6e0e7c1da1c3f646d37e45a0e17ae27675bab77d52de1c996aa54"), looks := true }, kinds := [], alts := [], laidByText := true, laidKinds := [.data, .data, .data, .sentinel, .sentinel, .data], laidTests := true, laidLooks := .later }
def BookChecksCardSaid : Prop := Claim7.holds Tryz.pinned (.plain (OpenSpec.ofChange bookChecksSpec)) bookChecksCard

/-- THE TIED CARD OF 'transposallaw10.BookSames'. -/
def bookSamesCard : Claim7 := { stood := { row := bookSamesRow, standIns := [], harness := (true, "ad72178ba3f6e0e7c1da1c3f646d37e45a0e17ae27675bab77d52de1c996aa54"), looks := true }, kinds := [], alts := [], laidByText := true, laidKinds := [.data, .data, .data, .sentinel, .sentinel, .data], laidTests := true, laidLooks := .later }
def BookSamesCardSaid : Prop := Claim7.holds Tryz.pinned (.plain (OpenSpec.ofChange bookSamesSpec)) bookSamesCard

/-- THE TIED CARD OF 'transposallaw10.BookFrames'. -/
def bookFramesCard : Claim7 := { stood := { row := bookFramesRow, standIns := [], harness := (true, "ad72178ba3f6e0e7c1da1c3f646d37e45a0e17ae27675bab77d52de1c996aa54"), looks := true }, kinds := [], alts := [], laidByText := true, laidKinds := [.data, .data, .data, .data, .sentinel, .sentinel, .data, .pinned], laidTests := true, laidLooks := .later }
def BookFramesCardSaid : Prop := Claim7.holds Tryz.pinned (.plain (OpenSpec.ofChange bookFramesSpec)) bookFramesCard

/-- THE SECOND FORM's CARD OF 'transposallaw09.EntrySums'. -/
def entrySumsUptoCard : Claim7 := { stood := { row := entrySumsUptoRow, standIns := [], harness := (true, "ad72178ba3f6e0e7c1da1c3f646d37e45a0e17ae27675bab77d52de1c996aa54"), looks := true }, kinds := [], alts := [], laidByText := true, laidKinds := [.data, .data, .data, .sentinel, .sentinel, .data], laidTests := true, laidLooks := .later }
def EntrySumsUptoCardSaid : Prop := Claim7.holds Tryz.pinned (.plain (OpenSpec.upto entrySumsSpec)) entrySumsUptoCard

/-- THE SECOND FORM's CARD OF 'transposallaw09.EntryChecks'. -/
def entryChecksUptoCard : Claim7 := { stood := { row := entryChecksUptoRow, standIns := [], harness := (true, "ad72178ba3f6e0e7c1da1c3f646d37e45a0e17ae27675bab77d52de1c996aa54"), looks := true }, kinds := [], alts := [], laidByText := true, laidKinds := [.data, .data, .data, .sentinel, .sentinel, .data], laidTests := true, laidLooks := .later }
def EntryChecksUptoCardSaid : Prop := Claim7.holds Tryz.pinned (.plain (OpenSpec.upto entryChecksSpec)) entryChecksUptoCard

/-- THE SECOND FORM's CARD OF 'transposallaw09.EntryTurns'. -/
def entryTurnsUptoCard : Claim7 := { stood := { row := entryTurnsUptoRow, standIns := [], harness := (true, "ad72178ba3f6e0e7c1da1c3f646d37e45a0e17ae27675bab77d52de1c996aa54"), looks := true }, kinds := [], alts := [], laidByText := true, laidKinds := [.data, .data, .data, .sentinel, .sentinel, .data], laidTests := true, laidLooks := .later }
def EntryTurnsUptoCardSaid : Prop := Claim7.holds Tryz.pinned (.plain (OpenSpec.upto entryTurnsSpec)) entryTurnsUptoCard

/-- THE SECOND FORM's CARD OF 'transposallaw09.EntrySames'. -/
def entrySamesUptoCard : Claim7 := { stood := { row := entrySamesUptoRow, standIns := [], harness := (true, "ad72178ba3f6e0e7c1da1c3f646d37e45a0e17ae27675bab77d52de1c996aa54"), looks := true }, kinds := [], alts := [], laidByText := true, laidKinds := [.data, .data, .data, .sentinel, .sentinel, .data], laidTests := true, laidLooks := .later }
def EntrySamesUptoCardSaid : Prop := Claim7.holds Tryz.pinned (.plain (OpenSpec.upto entrySamesSpec)) entrySamesUptoCard

/-- THE SECOND FORM's CARD OF 'transposallaw10.BookLines'. -/
def bookLinesUptoCard : Claim7 := { stood := { row := bookLinesUptoRow, standIns := [], harness := (true, "ad72178ba3f6e0e7c1da1c3f646d37e45a0e17ae27675bab77d52de1c996aa54"), looks := true }, kinds := [], alts := [], laidByText := true, laidKinds := [.data, .data, .data, .sentinel, .sentinel, .data], laidTests := true, laidLooks := .later }
def BookLinesUptoCardSaid : Prop := Claim7.holds Tryz.pinned (.plain (OpenSpec.upto bookLinesSpec)) bookLinesUptoCard

/-- THE SECOND FORM's CARD OF 'transposallaw10.BookDays'. -/
def bookDaysUptoCard : Claim7 := { stood := { row := bookDaysUptoRow, standIns := [], harness := (true, "ad72178ba3f6e0e7c1da1c3f646d37e45a0e17ae27675bab77d52de1c996aa54"), looks := true }, kinds := [], alts := [], laidByText := true, laidKinds := [.data, .data, .data, .sentinel, .sentinel, .data], laidTests := true, laidLooks := .later }
def BookDaysUptoCardSaid : Prop := Claim7.holds Tryz.pinned (.plain (OpenSpec.upto bookDaysSpec)) bookDaysUptoCard

/-- THE SECOND FORM's CARD OF 'transposallaw10.BookParts'. -/
def bookPartsUptoCard : Claim7 := { stood := { row := bookPartsUptoRow, standIns := [], harness := (true, "ad72178ba3f6e0e7c1da1c3f646d37e45a0e17ae27675bab77d52de1c996aa54"), looks := true }, kinds := [], alts := [], laidByText := true, laidKinds := [.data, .data, .data, .sentinel, .sentinel, .data], laidTests := true, laidLooks := .later }
def BookPartsUptoCardSaid : Prop := Claim7.holds Tryz.pinned (.plain (OpenSpec.upto bookPartsSpec)) bookPartsUptoCard

/-- THE SECOND FORM's CARD OF 'transposallaw10.BookChecks'. -/
def bookChecksUptoCard : Claim7 := { stood := { row := bookChecksUptoRow, standIns := [], harness := (true, "ad72178ba3f6e0e7c1da1c3f646d37e45a0e17ae27675bab77d52de1c996aa54"), looks := true }, kinds := [], alts := [], laidByText := true, laidKinds := [.data, .data, .data, .sentinel, .sentinel, .data], laidTests := true, laidLooks := .later }
def BookChecksUptoCardSaid : Prop := Claim7.holds Tryz.pinned (.plain (OpenSpec.upto bookChecksSpec)) bookChecksUptoCard

/-- THE SECOND FORM's CARD OF 'transposallaw10.BookSames'. -/
def bookSamesUptoCard : Claim7 := { stood := { row := bookSamesUptoRow, standIns := [], harness := (true, "ad72178ba3f6e0e7c1da1c3f646d37e45a0e17ae27675bab77d52de1c996aa54"), looks := true }, kinds := [], alts := [], laidByText := true, laidKinds := [.data, .data, .data, .sentinel, .sentinel, .data], laidTests := true, laidLooks := .later }
def BookSamesUptoCardSaid : Prop := Claim7.holds Tryz.pinned (.plain (OpenSpec.upto bookSamesSpec)) bookSamesUptoCard

/-- THE SECOND FORM's CARD OF 'transposallaw10.BookFrames'. -/
def bookFramesUptoCard : Claim7 := { stood := { row := bookFramesUptoRow, standIns := [], harness := (true, "ad72178ba3f6e0e7c1da1c3f646d37e45a0e17ae27675bab77d52de1c996aa54"), looks := true }, kinds := [], alts := [], laidByText := true, laidKinds := [.data, .data, .data, .data, .sentinel, .sentinel, .data, .pinned], laidTests := true, laidLooks := .later }
def BookFramesUptoCardSaid : Prop := Claim7.holds Tryz.pinned (.plain (OpenSpec.upto bookFramesSpec)) bookFramesUptoCard
end Rows
end Go.Proofs.YtddaogebacigbaaGreatDoor
