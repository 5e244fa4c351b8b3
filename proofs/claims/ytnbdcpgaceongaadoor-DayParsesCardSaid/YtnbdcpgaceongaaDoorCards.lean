/-
  DERIVED. GIVEN WITH THE SEED: THE CARDS: each row of YtnbdcpgaceongaaDoorRows.lean that lists a variable, with what it lists TIED to the program's text (the seventh form; the later family's looks); each row that meets fmt, with fmt's text TOLD by the authors' own Lean function (tested against real Go, not proved from fmt's source: count such statements apart). THE CARD IS WHAT COUNTS. Prove the row's statement (the work); the ties are given (YtnbdcpgaceongaaDoorTie.lean); close each card by the builder's one call (the guide's Derived/Test/ToyasCard.lean, 'card_holds'). Laid BY PROGRAM, IN A SANDBOX (cutbox-door.mjs). By AI agents, Wed Nov 11 2026. No macro, syntax, notation, axiom, sorry.
-/
import Derived.Test.YtnbdcpgaceongaaDoorRows
import GoSem.ClaimSeven
namespace Go.Proofs.YtnbdcpgaceongaaDoor
namespace Rows

/-- THE TIED CARD OF 'transposallaw04.DayDates'. -/
def dayDatesCard : Claim7 := { stood := { row := dayDatesRow, standIns := [], harness := (true, "6c9a178b6ea0b42c9a6ccf8de42faf9cb03443c5de20fca0ea36debc5f81e304"), looks := true }, kinds := [], alts := [], laidByText := true, laidKinds := [.data, .data, .data, .sentinel, .sentinel, .data], laidTests := true, laidLooks := .later }
def DayDatesCardSaid : Prop := Claim7.holds Tryd.pinned (.plain (OpenSpec.ofChange dayDatesSpec)) dayDatesCard

/-- THE TIED CARD OF 'transposallaw04.DayNext'. -/
def dayNextCard : Claim7 := { stood := { row := dayNextRow, standIns := [], harness := (true, "6c9a178b6ea0b42c9a6ccf8de42faf9cb03443c5de20fca0ea36debc5f81e304"), looks := true }, kinds := [], alts := [], laidByText := true, laidKinds := [.data, .data, .data, .sentinel, .sentinel, .data], laidTests := true, laidLooks := .later }
def DayNextCardSaid : Prop := Claim7.holds Tryd.pinned (.plain (OpenSpec.ofChange dayNextSpec)) dayNextCard

/-- THE TIED CARD OF 'transposallaw04.DayAges'. -/
def dayAgesCard : Claim7 := { stood := { row := dayAgesRow, standIns := [], harness := (true, "6c9a178b6ea0b42c9a6ccf8de42faf9cb03443c5de20fca0ea36debc5f81e304"), looks := true }, kinds := [], alts := [], laidByText := true, laidKinds := [.data, .data, .data, .sentinel, .sentinel, .data], laidTests := true, laidLooks := .later }
def DayAgesCardSaid : Prop := Claim7.holds Tryd.pinned (.plain (OpenSpec.ofChange dayAgesSpec)) dayAgesCard

/-- THE TIED CARD OF 'transposallaw04.DayOf'. -/
def dayOfCard : Claim7 := { stood := { row := dayOfRow, standIns := [], harness := (true, "6c9a178b6ea0b42c9a6ccf8de42faf9cb03443c5de20fca0ea36debc5f81e304"), looks := true }, kinds := [], alts := [], laidByText := true, laidKinds := [.data, .data, .data, .sentinel, .sentinel, .data], laidTests := true, laidLooks := .later }
def DayOfCardSaid : Prop := Claim7.holds Tryd.pinned (.plain (OpenSpec.ofChange dayOfSpec)) dayOfCard

/-- THE TIED CARD OF 'transposallaw04.DayParses'. -/
def dayParsesCard : Claim7 := { stood := { row := dayParsesRow, standIns := [], harness := (true, "6c9a178b6ea0b42c9a6ccf8de42faf9cb03443c5de20fca0ea36debc5f81e304"), looks := true }, kinds := [], alts := [], laidByText := true, laidKinds := [.data, .data, .data, .sentinel, .sentinel, .data], laidTests := true, laidLooks := .later }
def DayParsesCardSaid : Prop := Claim7.holds Tryd.pinned (.plain (OpenSpec.ofChange dayParsesSpec)) dayParsesCard

/-- THE SECOND FORM's CARD OF 'transposallaw04.DayDates'. -/
def dayDatesUptoCard : Claim7 := { stood := { row := dayDatesUptoRow, standIns := [], harness := (true, "6c9a178b6ea0b42c9a6ccf8de42faf9cb03443c5de20fca0ea36debc5f81e304"), looks := true }, kinds := [], alts := [], laidByText := true, laidKinds := [.data, .data, .data, .sentinel, .sentinel, .data], laidTests := true, laidLooks := .later }
def DayDatesUptoCardSaid : Prop := Claim7.holds Tryd.pinned (.plain (OpenSpec.upto dayDatesSpec)) dayDatesUptoCard

/-- THE SECOND FORM's CARD OF 'transposallaw04.DayNext'. -/
def dayNextUptoCard : Claim7 := { stood := { row := dayNextUptoRow, standIns := [], harness := (true, "6c9a178b6ea0b42c9a6ccf8de42faf9cb03443c5de20fca0ea36debc5f81e304"), looks := true }, kinds := [], alts := [], laidByText := true, laidKinds := [.data, .data, .data, .sentinel, .sentinel, .data], laidTests := true, laidLooks := .later }
def DayNextUptoCardSaid : Prop := Claim7.holds Tryd.pinned (.plain (OpenSpec.upto dayNextSpec)) dayNextUptoCard

/-- THE SECOND FORM's CARD OF 'transposallaw04.DayAges'. -/
def dayAgesUptoCard : Claim7 := { stood := { row := dayAgesUptoRow, standIns := [], harness := (true, "6c9a178b6ea0b42c9a6ccf8de42faf9cb03443c5de20fca0ea36debc5f81e304"), looks := true }, kinds := [], alts := [], laidByText := true, laidKinds := [.data, .data, .data, .sentinel, .sentinel, .data], laidTests := true, laidLooks := .later }
def DayAgesUptoCardSaid : Prop := Claim7.holds Tryd.pinned (.plain (OpenSpec.upto dayAgesSpec)) dayAgesUptoCard

/-- THE SECOND FORM's CARD OF 'transposallaw04.DayOf'. -/
def dayOfUptoCard : Claim7 := { stood := { row := dayOfUptoRow, standIns := [], harness := (true, "6c9a178b6ea0b42c9a6ccf8de42faf9cb03443c5de20fca0ea36debc5f81e304"), looks := true }, kinds := [], alts := [], laidByText := true, laidKinds := [.data, .data, .data, .sentinel, .sentinel, .data], laidTests := true, laidLooks := .later }
def DayOfUptoCardSaid : Prop := Claim7.holds Tryd.pinned (.plain (OpenSpec.upto dayOfSpec)) dayOfUptoCard

/-- THE SECOND FORM's CARD OF 'transposallaw04.DayParses'. -/
def dayParsesUptoCard : Claim7 := { stood := { row := dayParsesUptoRow, standIns := [], harness := (true, "6c9a178b6ea0b42c9a6ccf8de42faf9cb03443c5de20fca0ea36debc5f81e304"), looks := true }, kinds := [], alts := [], laidByText := true, laidKinds := [.data, .data, .data, .sentinel, .sentinel, .data], laidTests := true, laidLooks := .later }
def DayParsesUptoCardSaid : Prop := Claim7.holds Tryd.pinned (.plain (OpenSpec.upto dayParsesSpec)) dayParsesUptoCard
end Rows
end Go.Proofs.YtnbdcpgaceongaaDoor
