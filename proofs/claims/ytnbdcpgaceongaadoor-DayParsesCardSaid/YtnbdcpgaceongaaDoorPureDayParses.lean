/- DayParses, as its pure statement: any text that is parsed is its day's text. No conditions. -/
import Derived.Test.YtnbdcpgaceongaaDoorXA8
import Derived.Test.YtnbdcpgaceongaaDoorPDayC
namespace Go.Proofs.YtnbdcpgaceongaaDoor.Pure
open Go.RowKit Go.Proofs.YtnbdcpgaceongaaDoorW.PrintWords Go.Proofs.YtnbdcpgaceongaaDoorW.PrintLast Go.Proofs.YtnbdcpgaceongaaDoor.XA Go.Proofs.YtnbdcpgaceongaaDoor.DayMath Go.Proofs.YtnbdcpgaceongaaDoor.PDay
set_option linter.unusedVariables false
theorem DayParses : transposallaw04_DayParses.Pure := by
  intro a0 h0
  refine ⟨30000, ?_⟩
  unfold transposallaw04_DayParses.f
  rw [awake 30000 (by omega)]
  simp only [Option.bind_some, if_true]
  rcases parse_any a0 30000 (by omega) with e | ⟨y, m, d, V, ht, e⟩
  · rw [e]
    simp
  · rw [e]
    simp only [Option.bind_some, if_true]
    rw [text_eq V 30000 (by omega)]
    simp only [Option.bind_some]
    rw [if_pos ht]
end Go.Proofs.YtnbdcpgaceongaaDoor.Pure
