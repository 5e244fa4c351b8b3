/- DayDates, as its pure statement: of every number: its year, month, day are a date whose number it is; noughts and no text of what is no day. No conditions. -/
import Derived.Test.YtnbdcpgaceongaaDoorXA6
import Derived.Test.YtnbdcpgaceongaaDoorPDayB
namespace Go.Proofs.YtnbdcpgaceongaaDoor.Pure
open Go.RowKit Go.Proofs.YtnbdcpgaceongaaDoorW.PrintWords Go.Proofs.YtnbdcpgaceongaaDoorW.PrintLast Go.Proofs.YtnbdcpgaceongaaDoor.XA Go.Proofs.YtnbdcpgaceongaaDoor.DayMath Go.Proofs.YtnbdcpgaceongaaDoor.PDay
set_option linter.unusedVariables false
set_option linter.unusedSimpArgs false
theorem dates_any (n : Int) (h1 : -2147483648 ≤ n) (h2 : n ≤ 2147483647) (k : Nat) (hk : 40000 ≤ k) : transposallaw04_DayDates.j0 (k + 2) n = some true := by
  simp only [transposallaw04_DayDates.j0]
  rw [w64 (x := n) (by omega) (by omega), number_eq (y := 1) (m := 1) (d := 1) (by omega) (by omega) (by omega) (by omega) (by omega) (by omega) (k + 1) (by omega), number_eq (y := 9999) (m := 12) (d := 31) (by omega) (by omega) (by omega) (by omega) (by omega) (by omega) (k + 1) (by omega), num_first, num_last]
  simp only [Option.bind_some]
  by_cases hr : n < -719162 ∨ 2932897 ≤ n
  · rw [date_none hr (k + 1) (by omega)]
    simp only [Option.bind_some]
    have hj : transposallaw04_DayDates.j1 (k + 1) n 0 0 0 true = some true := by
      simp only [transposallaw04_DayDates.j1, if_true]
      rw [text_none hr k (by omega)]
      simp [toList_data]
    rcases hr with hr | hr
    · rw [if_pos hr]
      exact hj
    · rw [if_neg (by omega), decide_eq_true (show n > 2932896 by omega)]
      exact hj
  · obtain ⟨y, m, d, V, rfl⟩ := exists_date (n := n) (by omega) (by omega)
    rw [date_eq V (k + 1) (by omega)]
    simp only [Option.bind_some]
    have hr := num_range V
    rw [if_neg (by omega), decide_eq_false (show ¬ num y m d > 2932896 by omega)]
    simp only [transposallaw04_DayDates.j1]
    have V' := V
    obtain ⟨v1, v2, v3, v4, v5, v6⟩ := V'
    have hm := mlen_bound y m
    rw [right_eq y m d k (by omega), number_eq (by omega) (by omega) v3 v4 (by omega) (by omega) k (by omega), w64 (x := num y m d) (by omega) (by omega)]
    simp [V]
theorem DayDates : transposallaw04_DayDates.Pure := by
  intro a0 a1 h
  have hb : -2147483648 ≤ a0 ∧ a0 ≤ 2147483647 := by
    simp [Lit.wf, show IntKind.i32.min = -2147483648 from rfl, show IntKind.i32.max = 2147483647 from rfl] at h
    exact h
  refine ⟨50002, ?_⟩
  unfold transposallaw04_DayDates.f
  rw [awake 50002 (by omega)]
  simp only [Option.bind_some, if_true]
  cases a1
  · simp only [Bool.false_eq_true, if_false]
    exact dates_any a0 hb.1 hb.2 50000 (by omega)
  · simp only [if_true]
    have ht : -3000000 ≤ a0.tmod 3000000 ∧ a0.tmod 3000000 ≤ 3000000 := by
      have h1 := Int.tmod_lt_of_pos a0 (show (0 : Int) < 3000000 by omega)
      have h2 := Int.lt_tmod_of_pos a0 (show (0 : Int) < 3000000 by omega)
      omega
    exact dates_any _ (by omega) (by omega) 50000 (by omega)
end Go.Proofs.YtnbdcpgaceongaaDoor.Pure
