/- EntrySums' statement without Go. No conditions. -/
import Derived.Test.YtddaogebacigbaaGreatDoorXA16
import Derived.Test.YtddaogebacigbaaGreatDoorPLine
namespace Go.Proofs.YtddaogebacigbaaGreatDoor.Pure
open Go.RowKit Go.Proofs.YtddaogebacigbaaGreatDoorW.PrintWords Go.Proofs.YtddaogebacigbaaGreatDoorW.PrintLast Go.Proofs.YtddaogebacigbaaGreatDoor.XA Go.Proofs.YtddaogebacigbaaGreatDoor.PInts Go.Proofs.YtddaogebacigbaaGreatDoor.PCal Go.Proofs.YtddaogebacigbaaGreatDoor.PLine
set_option linter.unusedVariables false
theorem EntrySums : transposallaw09_EntrySums.Pure := by
  intro l few hl0 hw
  obtain ⟨K, hK⟩ : ∃ K : Nat, 60000 ≤ K := ⟨60000, Nat.le_refl _⟩
  refine ⟨K, ?_⟩
  unfold transposallaw09_EntrySums.f
  rw [awake9 K (by omega) (awake8 K (by omega) (awake7 K (by omega)))]
  simp only [Option.bind_some, if_true]
  by_cases h : l.length > 70
  · rw [if_pos h]
  · rw [if_neg h, if_pos (List.all_eq_true.2 (fun x hx => by unfold xqWf; rw [(hw x hx).2.1, (hw x hx).2.2.2]; rfl))]
end Go.Proofs.YtddaogebacigbaaGreatDoor.Pure
