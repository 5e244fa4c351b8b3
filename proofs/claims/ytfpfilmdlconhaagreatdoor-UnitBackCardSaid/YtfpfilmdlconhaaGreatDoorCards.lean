/-
  DERIVED. GIVEN WITH THE SEED: THE CARDS: each row of YtfpfilmdlconhaaGreatDoorRows.lean that lists a variable, with what it lists TIED to the program's text (the seventh form; the later family's looks); each row that meets fmt, with fmt's text TOLD by the authors' own Lean function (tested against real Go, not proved from fmt's source: count such statements apart). THE CARD IS WHAT COUNTS. Prove the row's statement (the work); the ties are given (YtfpfilmdlconhaaGreatDoorTie.lean); close each card by the builder's one call (the guide's Derived/Test/ToyasCard.lean, 'card_holds'). Laid BY PROGRAM, IN A SANDBOX (cutbox-door.mjs). By AI agents, Wed Nov 11 2026. No macro, syntax, notation, axiom, sorry.
-/
import Derived.Test.YtfpfilmdlconhaaGreatDoorRows
import GoSem.ClaimSeven
namespace Go.Proofs.YtfpfilmdlconhaaGreatDoor
namespace Rows

/-- THE TIED CARD OF 'transposallaw08.CalendarSames'. -/
def calendarSamesCard : Claim7 := { stood := { row := calendarSamesRow, standIns := [], harness := (true, "3cd3d20228845d99a8f95fdeb095042c44882088b917eff45a2321bd9aa391cb"), looks := true }, kinds := [], alts := [], laidByText := true, laidKinds := [.data, .data, .data, .sentinel, .sentinel, .data], laidTests := true, laidLooks := .later }
def CalendarSamesCardSaid : Prop := Claim7.holds Tryz.pinned (.plain (OpenSpec.ofChange calendarSamesSpec)) calendarSamesCard

/-- THE TIED CARD OF 'transposallaw08.CalendarWhole'. -/
def calendarWholeCard : Claim7 := { stood := { row := calendarWholeRow, standIns := [], harness := (true, "3cd3d20228845d99a8f95fdeb095042c44882088b917eff45a2321bd9aa391cb"), looks := true }, kinds := [], alts := [], laidByText := true, laidKinds := [.data, .data, .data, .sentinel, .sentinel, .data], laidTests := true, laidLooks := .later }
def CalendarWholeCardSaid : Prop := Claim7.holds Tryz.pinned (.plain (OpenSpec.ofChange calendarWholeSpec)) calendarWholeCard

/-- THE TIED CARD OF 'transposallaw08.CalendarPeriods'. -/
def calendarPeriodsCard : Claim7 := { stood := { row := calendarPeriodsRow, standIns := [], harness := (true, "3cd3d20228845d99a8f95fdeb095042c44882088b917eff45a2321bd9aa391cb"), looks := true }, kinds := [], alts := [], laidByText := true, laidKinds := [.data, .data, .data, .sentinel, .sentinel, .data], laidTests := true, laidLooks := .later }
def CalendarPeriodsCardSaid : Prop := Claim7.holds Tryz.pinned (.plain (OpenSpec.ofChange calendarPeriodsSpec)) calendarPeriodsCard

/-- THE TIED CARD OF 'transposallaw08.CalendarChecks'. -/
def calendarChecksCard : Claim7 := { stood := { row := calendarChecksRow, standIns := [], harness := (true, "3cd3d20228845d99a8f95fdeb095042c44882088b917eff45a2321bd9aa391cb"), looks := true }, kinds := [], alts := [], laidByText := true, laidKinds := [.data, .data, .data, .sentinel, .sentinel, .data], laidTests := true, laidLooks := .later }
def CalendarChecksCardSaid : Prop := Claim7.holds Tryz.pinned (.plain (OpenSpec.ofChange calendarChecksSpec)) calendarChecksCard

/-- THE TIED CARD OF 'transposallaw08.CalendarShift'. -/
def calendarShiftCard : Claim7 := { stood := { row := calendarShiftRow, standIns := [], harness := (true, "3cd3d20228845d99a8f95fdeb095042c44882088b917eff45a2321bd9aa391cb"), looks := true }, kinds := [], alts := [], laidByText := true, laidKinds := [.data, .data, .data, .sentinel, .sentinel, .data], laidTests := true, laidLooks := .later }
def CalendarShiftCardSaid : Prop := Claim7.holds Tryz.pinned (.plain (OpenSpec.ofChange calendarShiftSpec)) calendarShiftCard

/-- THE TIED CARD OF 'transposallaw07.UnitMany'. -/
def unitManyCard : Claim7 := { stood := { row := unitManyRow, standIns := [], harness := (true, "3cd3d20228845d99a8f95fdeb095042c44882088b917eff45a2321bd9aa391cb"), looks := true }, kinds := [], alts := [], laidByText := true, laidKinds := [.data, .data, .data, .sentinel, .sentinel, .data], laidTests := true, laidLooks := .later }
def UnitManyCardSaid : Prop := Claim7.holds Tryz.pinned (.plain (OpenSpec.ofChange unitManySpec)) unitManyCard

/-- THE TIED CARD OF 'transposallaw07.UnitChecks'. -/
def unitChecksCard : Claim7 := { stood := { row := unitChecksRow, standIns := [], harness := (true, "3cd3d20228845d99a8f95fdeb095042c44882088b917eff45a2321bd9aa391cb"), looks := true }, kinds := [], alts := [], laidByText := true, laidKinds := [.data, .data, .data, .sentinel, .sentinel, .data], laidTests := true, laidLooks := .later }
def UnitChecksCardSaid : Prop := Claim7.holds Tryz.pinned (.plain (OpenSpec.ofChange unitChecksSpec)) unitChecksCard

/-- THE TIED CARD OF 'transposallaw07.UnitTurns'. -/
def unitTurnsCard : Claim7 := { stood := { row := unitTurnsRow, standIns := [], harness := (true, "3cd3d20228845d99a8f95fdeb095042c44882088b917eff45a2321bd9aa391cb"), looks := true }, kinds := [], alts := [], laidByText := true, laidKinds := [.data, .data, .data, .sentinel, .sentinel, .data], laidTests := true, laidLooks := .later }
def UnitTurnsCardSaid : Prop := Claim7.holds Tryz.pinned (.plain (OpenSpec.ofChange unitTurnsSpec)) unitTurnsCard

/-- THE TIED CARD OF 'transposallaw07.UnitBack'. -/
def unitBackCard : Claim7 := { stood := { row := unitBackRow, standIns := [], harness := (true, "3cd3d20228845d99a8f95fdeb095042c44882088b917eff45a2321bd9aa391cb"), looks := true }, kinds := [], alts := [], laidByText := true, laidKinds := [.data, .data, .data, .sentinel, .sentinel, .data], laidTests := true, laidLooks := .later }
def UnitBackCardSaid : Prop := Claim7.holds Tryz.pinned (.plain (OpenSpec.ofChange unitBackSpec)) unitBackCard

/-- THE SECOND FORM's CARD OF 'transposallaw08.CalendarSames'. -/
def calendarSamesUptoCard : Claim7 := { stood := { row := calendarSamesUptoRow, standIns := [], harness := (true, "3cd3d20228845d99a8f95fdeb095042c44882088b917eff45a2321bd9aa391cb"), looks := true }, kinds := [], alts := [], laidByText := true, laidKinds := [.data, .data, .data, .sentinel, .sentinel, .data], laidTests := true, laidLooks := .later }
def CalendarSamesUptoCardSaid : Prop := Claim7.holds Tryz.pinned (.plain (OpenSpec.upto calendarSamesSpec)) calendarSamesUptoCard

/-- THE SECOND FORM's CARD OF 'transposallaw08.CalendarWhole'. -/
def calendarWholeUptoCard : Claim7 := { stood := { row := calendarWholeUptoRow, standIns := [], harness := (true, "3cd3d20228845d99a8f95fdeb095042c44882088b917eff45a2321bd9aa391cb"), looks := true }, kinds := [], alts := [], laidByText := true, laidKinds := [.data, .data, .data, .sentinel, .sentinel, .data], laidTests := true, laidLooks := .later }
def CalendarWholeUptoCardSaid : Prop := Claim7.holds Tryz.pinned (.plain (OpenSpec.upto calendarWholeSpec)) calendarWholeUptoCard

/-- THE SECOND FORM's CARD OF 'transposallaw08.CalendarPeriods'. -/
def calendarPeriodsUptoCard : Claim7 := { stood := { row := calendarPeriodsUptoRow, standIns := [], harness := (true, "3cd3d20228845d99a8f95fdeb095042c44882088b917eff45a2321bd9aa391cb"), looks := true }, kinds := [], alts := [], laidByText := true, laidKinds := [.data, .data, .data, .sentinel, .sentinel, .data], laidTests := true, laidLooks := .later }
def CalendarPeriodsUptoCardSaid : Prop := Claim7.holds Tryz.pinned (.plain (OpenSpec.upto calendarPeriodsSpec)) calendarPeriodsUptoCard

/-- THE SECOND FORM's CARD OF 'transposallaw08.CalendarChecks'. -/
def calendarChecksUptoCard : Claim7 := { stood := { row := calendarChecksUptoRow, standIns := [], harness := (true, "3cd3d20228845d99a8f95fdeb095042c44882088b917eff45a2321bd9aa391cb"), looks := true }, kinds := [], alts := [], laidByText := true, laidKinds := [.data, .data, .data, .sentinel, .sentinel, .data], laidTests := true, laidLooks := .later }
def CalendarChecksUptoCardSaid : Prop := Claim7.holds Tryz.pinned (.plain (OpenSpec.upto calendarChecksSpec)) calendarChecksUptoCard

/-- THE SECOND FORM's CARD OF 'transposallaw08.CalendarShift'. -/
def calendarShiftUptoCard : Claim7 := { stood := { row := calendarShiftUptoRow, standIns := [], harness := (true, "3cd3d20228845d99a8f95fdeb095042c44882088b917eff45a2321bd9aa391cb"), looks := true }, kinds := [], alts := [], laidByText := true, laidKinds := [.data, .data, .data, .sentinel, .sentinel, .data], laidTests := true, laidLooks := .later }
def CalendarShiftUptoCardSaid : Prop := Claim7.holds Tryz.pinned (.plain (OpenSpec.upto calendarShiftSpec)) calendarShiftUptoCard

/-- THE SECOND FORM's CARD OF 'transposallaw07.UnitMany'. -/
def unitManyUptoCard : Claim7 := { stood := { row := unitManyUptoRow, standIns := [], harness := (true, "3cd3d20228845d99a8f95fdeb095042c44882088b917eff45a2321bd9aa391cb"), looks := true }, kinds := [], alts := [], laidByText := true, laidKinds := [.data, .data, .data, .sentinel, .sentinel, .data], laidTests := true, laidLooks := .later }
def UnitManyUptoCardSaid : Prop := Claim7.holds Tryz.pinned (.plain (OpenSpec.upto unitManySpec)) unitManyUptoCard

/-- THE SECOND FORM's CARD OF 'transposallaw07.UnitChecks'. -/
def unitChecksUptoCard : Claim7 := { stood := { row := unitChecksUptoRow, standIns := [], harness := (true, "3cd3d20228845d99a8f95fdeb095042c44882088b917eff45a2321bd9aa391cb"), looks := true }, kinds := [], alts := [], laidByText := true, laidKinds := [.data, .data, .data, .sentinel, .sentinel, .data], laidTests := true, laidLooks := .later }
def UnitChecksUptoCardSaid : Prop := Claim7.holds Tryz.pinned (.plain (OpenSpec.upto unitChecksSpec)) unitChecksUptoCard

/-- THE SECOND FORM's CARD OF 'transposallaw07.UnitTurns'. -/
def unitTurnsUptoCard : Claim7 := { stood := { row := unitTurnsUptoRow, standIns := [], harness := (true, "3cd3d20228845d99a8f95fdeb095042c44882088b917eff45a2321bd9aa391cb"), looks := true }, kinds := [], alts := [], laidByText := true, laidKinds := [.data, .data, .data, .sentinel, .sentinel, .data], laidTests := true, laidLooks := .later }
def UnitTurnsUptoCardSaid : Prop := Claim7.holds Tryz.pinned (.plain (OpenSpec.upto unitTurnsSpec)) unitTurnsUptoCard

/-- THE SECOND FORM's CARD OF 'transposallaw07.UnitBack'. -/
def unitBackUptoCard : Claim7 := { stood := { row := unitBackUptoRow, standIns := [], harness := (true, "3cd3d20228845d99a8f95fdeb095042c44882088b917eff45a2321bd9aa391cb"), looks := true }, kinds := [], alts := [], laidByText := true, laidKinds := [.data, .data, .data, .sentinel, .sentinel, .data], laidTests := true, laidLooks := .later }
def UnitBackUptoCardSaid : Prop := Claim7.holds Tryz.pinned (.plain (OpenSpec.upto unitBackSpec)) unitBackUptoCard
end Rows
end Go.Proofs.YtfpfilmdlconhaaGreatDoor
