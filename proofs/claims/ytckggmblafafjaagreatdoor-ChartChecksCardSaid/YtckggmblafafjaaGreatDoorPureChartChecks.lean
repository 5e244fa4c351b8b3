/- ChartChecks, as its pure statement. No conditions. -/
import Derived.Test.YtckggmblafafjaaGreatDoorXA17
import Derived.Test.YtckggmblafafjaaGreatDoorPAwake6
import Derived.Test.YtckggmblafafjaaGreatDoorPCheck
namespace Go.Proofs.YtckggmblafafjaaGreatDoor.Pure
open Go.RowKit Go.Proofs.YtckggmblafafjaaGreatDoorW.PrintWords Go.Proofs.YtckggmblafafjaaGreatDoorW.PrintLast Go.Proofs.YtckggmblafafjaaGreatDoor.XA Go.Proofs.YtckggmblafafjaaGreatDoor.ChartMath Go.Proofs.YtckggmblafafjaaGreatDoor.PChart
set_option linter.unusedVariables false
set_option linter.unusedSimpArgs false
theorem u32_wf {x : Int} (h : (Lit.int .u32 x).wf = true) : 0 ≤ x ∧ x ≤ 4294967295 := by
  simp [Lit.wf, show IntKind.u32.min = 0 from rfl, show IntKind.u32.max = 4294967295 from rfl] at h
  exact h
theorem ChartChecks : transposallaw06_ChartChecks.Pure := by
  intro l0 l1 a2 h1 h2 h3 h4
  obtain ⟨c, M, hc⟩ := make_eq h3 h4
  have hl := M.len
  obtain ⟨K, hK⟩ : ∃ K : Nat, 60000 ≤ K := ⟨60000, Nat.le_refl _⟩
  refine ⟨K, ?_⟩
  have hM := hc K (by omega)
  have hF := fine_check M.fine K (by omega)
  unfold transposallaw06_ChartChecks.f
  rw [awake6 K (by omega)]
  simp only [Option.bind_some, if_true]
  by_cases e0 : (l0.length : Int) > 210
  · rw [if_pos e0]
  by_cases e1 : (l1.length : Int) > 40
  · rw [if_neg e0, if_pos e1]
  rw [if_neg e0, if_neg e1]
  cases a2
  · rw [if_neg (by simp)]
    obtain ⟨e, he⟩ := check_eq (c := l0) (by omega) (fun a ha => (u32_wf (h2 a ha).1).1) (fun a ha => (h2 a ha).2.1)
    obtain ⟨q1, q2⟩ := he K (by omega)
    rw [q1, q2]
    simp only [Option.bind_some, if_true]
    rw [hM]
    simp only [Option.bind_some]
    rw [hF]
    rfl
  · rw [if_pos rfl, hM]
    simp only [Option.bind_some]
    rw [if_pos (by omega)]
    obtain ⟨e, he⟩ := check_eq (c := c ++ l0) (by rw [List.length_append]; omega) (fun a ha => by
      rcases List.mem_append.1 ha with ha | ha
      · have := M.good.pos a ha
        omega
      · exact (u32_wf (h2 a ha).1).1) (fun a ha => by
      rcases List.mem_append.1 ha with ha | ha
      · exact name_small (M.names a ha)
      · exact (h2 a ha).2.1)
    obtain ⟨q1, q2⟩ := he K (by omega)
    rw [q1, q2]
    simp only [Option.bind_some, if_true]
    rw [hF]
    rfl
end Go.Proofs.YtckggmblafafjaaGreatDoor.Pure
