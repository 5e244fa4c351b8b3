/-
  DERIVED. GIVEN WITH THE SEED: THE CARDS: each row of YtckggmblafafjaaGreatDoorRows.lean that lists a variable, with what it lists TIED to the program's text (the seventh form; the later family's looks); each row that meets fmt, with fmt's text TOLD by the authors' own Lean function (tested against real Go, not proved from fmt's source: count such statements apart). THE CARD IS WHAT COUNTS. Prove the row's statement (the work); the ties are given (YtckggmblafafjaaGreatDoorTie.lean); close each card by the builder's one call (the guide's Derived/Test/ToyasCard.lean, 'card_holds'). Laid BY PROGRAM, IN A SANDBOX (cutbox-door.mjs). By AI agents, Wed Nov 11 2026. No macro, syntax, notation, axiom, sorry.
-/
import Derived.Test.YtckggmblafafjaaGreatDoorRows
import GoSem.ClaimSeven
namespace Go.Proofs.YtckggmblafafjaaGreatDoor
namespace Rows

/-- THE TIED CARD OF 'transposallaw06.ChartTurns'. -/
def chartTurnsCard : Claim7 := { stood := { row := chartTurnsRow, standIns := [], harness := (true, "e62e9616533a3971544d0244718f4ae892f39942cf8e18a59255497db01e0f91"), looks := true }, kinds := [], alts := [], laidByText := true, laidKinds := [.data, .data, .data, .sentinel, .sentinel, .data], laidTests := true, laidLooks := .later }
def ChartTurnsCardSaid : Prop := Claim7.holds Tryz.pinned (.plain (OpenSpec.ofChange chartTurnsSpec)) chartTurnsCard

/-- THE TIED CARD OF 'transposallaw06.ChartBack'. -/
def chartBackCard : Claim7 := { stood := { row := chartBackRow, standIns := [], harness := (true, "e62e9616533a3971544d0244718f4ae892f39942cf8e18a59255497db01e0f91"), looks := true }, kinds := [], alts := [], laidByText := true, laidKinds := [.data, .data, .data, .sentinel, .sentinel, .data], laidTests := true, laidLooks := .later }
def ChartBackCardSaid : Prop := Claim7.holds Tryz.pinned (.plain (OpenSpec.ofChange chartBackSpec)) chartBackCard

/-- THE TIED CARD OF 'transposallaw06.ChartChecks'. -/
def chartChecksCard : Claim7 := { stood := { row := chartChecksRow, standIns := [], harness := (true, "e62e9616533a3971544d0244718f4ae892f39942cf8e18a59255497db01e0f91"), looks := true }, kinds := [], alts := [], laidByText := true, laidKinds := [.data, .data, .data, .data, .sentinel, .sentinel, .data, .pinned], laidTests := true, laidLooks := .later }
def ChartChecksCardSaid : Prop := Claim7.holds Tryz.pinned (.plain (OpenSpec.ofChange chartChecksSpec)) chartChecksCard

/-- THE TIED CARD OF 'transposallaw06.ChartSpoilt'. -/
def chartSpoiltCard : Claim7 := { stood := { row := chartSpoiltRow, standIns := [], harness := (true, "e62e9616533a3971544d0244718f4ae892f39942cf8e18a59255497db01e0f91"), looks := true }, kinds := [], alts := [], laidByText := true, laidKinds := [.data, .data, .data, .data, .sentinel, .sentinel, .data, .pinned], laidTests := true, laidLooks := .later }
def ChartSpoiltCardSaid : Prop := Claim7.holds Tryz.pinned (.plain (OpenSpec.ofChange chartSpoiltSpec)) chartSpoiltCard

/-- THE SECOND FORM's CARD OF 'transposallaw06.ChartTurns'. -/
def chartTurnsUptoCard : Claim7 := { stood := { row := chartTurnsUptoRow, standIns := [], harness := (true, "e62e9616533a3971544d0244718f4ae892f39942cf8e18a59255497db01e0f91"), looks := true }, kinds := [], alts := [], laidByText := true, laidKinds := [.data, .data, .data, .sentinel, .sentinel, .data], laidTests := true, laidLooks := .later }
def ChartTurnsUptoCardSaid : Prop := Claim7.holds Tryz.pinned (.plain (OpenSpec.upto chartTurnsSpec)) chartTurnsUptoCard

/-- THE SECOND FORM's CARD OF 'transposallaw06.ChartBack'. -/
def chartBackUptoCard : Claim7 := { stood := { row := chartBackUptoRow, standIns := [], harness := (true, "e62e9616533a3971544d0244718f4ae892f39942cf8e18a59255497db01e0f91"), looks := true }, kinds := [], alts := [], laidByText := true, laidKinds := [.data, .data, .data, .sentinel, .sentinel, .data], laidTests := true, laidLooks := .later }
def ChartBackUptoCardSaid : Prop := Claim7.holds Tryz.pinned (.plain (OpenSpec.upto chartBackSpec)) chartBackUptoCard

/-- THE SECOND FORM's CARD OF 'transposallaw06.ChartChecks'. -/
def chartChecksUptoCard : Claim7 := { stood := { row := chartChecksUptoRow, standIns := [], harness := (true, "e62e9616533a3971544d0244718f4ae892f39942cf8e18a59255497db01e0f91"), looks := true }, kinds := [], alts := [], laidByText := true, laidKinds := [.data, .data, .data, .data, .sentinel, .sentinel, .data, .pinned], laidTests := true, laidLooks := .later }
def ChartChecksUptoCardSaid : Prop := Claim7.holds Tryz.pinned (.plain (OpenSpec.upto chartChecksSpec)) chartChecksUptoCard

/-- THE SECOND FORM's CARD OF 'transposallaw06.ChartSpoilt'. -/
def chartSpoiltUptoCard : Claim7 := { stood := { row := chartSpoiltUptoRow, standIns := [], harness := (true, "e62e9616533a3971544d0244718f4ae892f39942cf8e18a59255497db01e0f91"), looks := true }, kinds := [], alts := [], laidByText := true, laidKinds := [.data, .data, .data, .data, .sentinel, .sentinel, .data, .pinned], laidTests := true, laidLooks := .later }
def ChartSpoiltUptoCardSaid : Prop := Claim7.holds Tryz.pinned (.plain (OpenSpec.upto chartSpoiltSpec)) chartSpoiltUptoCard
end Rows
end Go.Proofs.YtckggmblafafjaaGreatDoor
