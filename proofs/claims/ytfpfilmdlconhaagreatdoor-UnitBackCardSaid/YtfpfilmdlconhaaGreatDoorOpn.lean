/- The types of the laws' arguments: what reads as such data is told by the print's kinds. No conditions. -/
import Derived.Test.YtfpfilmdlconhaaGreatDoorXOpen
namespace Go.Proofs.YtfpfilmdlconhaaGreatDoor.Opn
open Go.RowKit Go.Proofs.YtfpfilmdlconhaaGreatDoorW.PrintWords Go.Proofs.YtfpfilmdlconhaaGreatDoorW.PrintLast Go.Proofs.YtfpfilmdlconhaaGreatDoor.XA
theorem laidOut : laidOutB Tryz.prog = true := by kernel_rfl
end Go.Proofs.YtfpfilmdlconhaaGreatDoor.Opn
