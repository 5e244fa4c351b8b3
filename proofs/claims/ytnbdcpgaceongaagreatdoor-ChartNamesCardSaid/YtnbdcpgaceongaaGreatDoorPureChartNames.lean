/- ChartNames, as its pure statement. No conditions. -/
import Derived.Test.YtnbdcpgaceongaaGreatDoorXA14
import Derived.Test.YtnbdcpgaceongaaGreatDoorPAwake6
namespace Go.Proofs.YtnbdcpgaceongaaGreatDoor.Pure
open Go.RowKit Go.Proofs.YtnbdcpgaceongaaGreatDoorW.PrintWords Go.Proofs.YtnbdcpgaceongaaGreatDoorW.PrintLast Go.Proofs.YtnbdcpgaceongaaGreatDoor.XA Go.Proofs.YtnbdcpgaceongaaGreatDoor.ChartMath Go.Proofs.YtnbdcpgaceongaaGreatDoor.PChart
set_option linter.unusedVariables false
set_option linter.unusedSimpArgs false
theorem ChartNames : transposallaw06_ChartNames.Pure := by
  intro a0 a1 a2 h0 h1 h2
  obtain ⟨K, hK⟩ : ∃ K : Nat, 60000 ≤ K := ⟨60000, Nat.le_refl _⟩
  refine ⟨K, ?_⟩
  have b1 : 0 ≤ a1 ∧ a1 ≤ 4294967295 := by
    simp [Lit.wf, show IntKind.u32.min = 0 from rfl, show IntKind.u32.max = 4294967295 from rfl] at h1
    exact h1
  unfold transposallaw06_ChartNames.f
  rw [awake6 K (by omega)]
  simp only [Option.bind_some, if_true]
  by_cases hs : (a0.size : Int) > 100
  · rw [if_pos hs]
  rw [if_neg hs]
  unfold chart_Name.f transposallaw06_name.f
  rw [if_pos (by omega)]
  simp only [Option.bind_some, beq_self_eq_true, if_true]
  have hc : chart_Code.f a1 = some (decide (a1 > 0) && decide (a1 < 1000000)) := by
    unfold chart_Code.f
    by_cases p : a1 ≥ 1
    · rw [if_pos p, decide_eq_true (show a1 > 0 by omega), Bool.true_and]
      congr 1
      exact decide_eq_decide.2 (by omega)
    · rw [if_neg p, decide_eq_false (show ¬ a1 > 0 by omega), Bool.false_and]
  have hk : chart_Kind_Credit.f a2 = some (decide (a2 = 1) || decide (a2 = 2) || decide (a2 = 3)) := by
    unfold chart_Kind_Credit.f
    split
    · congr 1
      by_cases e1 : a2 = 1
      · subst e1; rfl
      by_cases e2 : a2 = 2
      · subst e2; rfl
      by_cases e3 : a2 = 3
      · subst e3; rfl
      have : ¬ a2 ≤ 3 := by omega
      simp [e1, e2, e3, this]
    · have e1 : ¬ a2 = 1 := by omega
      have e2 : ¬ a2 = 2 := by omega
      have e3 : ¬ a2 = 3 := by omega
      simp [e1, e2, e3]
  have hf : chart_Kind_Flow.f a2 = some (decide (a2 = 3) || decide (a2 = 4)) := by
    unfold chart_Kind_Flow.f
    split
    · rename_i e; subst e; rfl
    · rename_i e
      by_cases e4 : a2 = 4
      · subst e4; rfl
      · simp [e, e4]
  rw [hc, hk, hf]
  simp only [Option.bind_some]
  by_cases p1 : a1 > 0 <;> by_cases p2 : a1 < 1000000 <;> by_cases e1 : a2 = 1 <;> by_cases e2 : a2 = 2 <;> by_cases e3 : a2 = 3 <;> by_cases e4 : a2 = 4
  all_goals first
    | (exfalso; omega)
    | simp [p1, p2, e1, e2, e3, e4]
end Go.Proofs.YtnbdcpgaceongaaGreatDoor.Pure
