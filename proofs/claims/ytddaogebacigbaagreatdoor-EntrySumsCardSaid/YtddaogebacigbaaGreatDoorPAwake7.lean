/- The laws' own wakefulness, up to 07. -/
import Derived.Test.YtddaogebacigbaaGreatDoorXA10
import Derived.Test.YtddaogebacigbaaGreatDoorPAwake6
import Derived.Test.YtddaogebacigbaaGreatDoorPInts
namespace Go.Proofs.YtddaogebacigbaaGreatDoor.PInts
open Go.RowKit Go.Proofs.YtddaogebacigbaaGreatDoorW.PrintWords Go.Proofs.YtddaogebacigbaaGreatDoorW.PrintLast Go.Proofs.YtddaogebacigbaaGreatDoor.XA
set_option linter.unusedVariables false
set_option linter.unusedSimpArgs false
theorem awake7 (k : Nat) (hk : 25000 ≤ k) : transposallaw07_Awake.f k = some true := by
  obtain ⟨r, r1, r2, _, _, _, r3⟩ := With_eq (l := [1, 3]) (by unfold SI; decide) 2 (by decide)
  have e : r = [1, 2, 3] := SI.ext r1 (by unfold SI; decide) (fun x => by rw [r2]; simp; omega)
  subst e
  unfold transposallaw07_Awake.f
  rw [r3 k (by omega)]
  simp only [Option.bind_some]
  rw [eqU_eq _ _ (by decide) k (by omega), decide_eq_true rfl]
  simp only [Option.bind_some, if_true]
  rw [show unit_Code.f 999 = some true from rfl, PChart.awake6 k (by omega)]
  rfl
end Go.Proofs.YtddaogebacigbaaGreatDoor.PInts
