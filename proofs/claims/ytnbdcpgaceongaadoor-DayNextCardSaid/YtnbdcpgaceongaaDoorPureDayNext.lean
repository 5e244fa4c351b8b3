/- DayNext, as its pure statement: the next number is the next day; texts rise as numbers do. No conditions. -/
import Derived.Test.YtnbdcpgaceongaaDoorXA7
import Derived.Test.YtnbdcpgaceongaaDoorPDayC
namespace Go.Proofs.YtnbdcpgaceongaaDoor.Pure
open Go.RowKit Go.Proofs.YtnbdcpgaceongaaDoorW.PrintWords Go.Proofs.YtnbdcpgaceongaaDoorW.PrintLast Go.Proofs.YtnbdcpgaceongaaDoor.XA Go.Proofs.YtnbdcpgaceongaaDoor.DayMath Go.Proofs.YtnbdcpgaceongaaDoor.PDay
set_option linter.unusedVariables false
set_option linter.unusedSimpArgs false
theorem text_or (n : Int) (k : Nat) (hk : 25000 ≤ k) : (day_Day_Text.f k n = some ⟨#[]⟩ ∧ day_Day_Date.f k n = some (0, 0, 0)) ∨ ∃ y m d, Valid y m d ∧ num y m d = n ∧ day_Day_Text.f k n = some ⟨(textL y m d).toArray⟩ ∧ day_Day_Date.f k n = some (y, m, d) := by
  by_cases hr : n < -719162 ∨ 2932897 ≤ n
  · exact .inl ⟨text_none hr k (by omega), date_none hr k (by omega)⟩
  · obtain ⟨y, m, d, V, rfl⟩ := exists_date (n := n) (by omega) (by omega)
    exact .inr ⟨y, m, d, V, rfl, text_eq V k hk, date_eq V k hk⟩
theorem nil_text {y m d : Int} : ¬ (⟨(textL y m d).toArray⟩ : ByteArray).toList = [] := by
  rw [toList_data]
  intro h
  have := congrArg List.length h
  simp [textL_length] at this
theorem DayNext : transposallaw04_DayNext.Pure := by
  intro a0 a1 h0 h1
  have hb : -2147483648 ≤ a0 ∧ a0 ≤ 2147483647 := by
    simp [Lit.wf, show IntKind.i32.min = -2147483648 from rfl, show IntKind.i32.max = 2147483647 from rfl] at h0
    exact h0
  have hb1 : 0 ≤ a1 ∧ a1 ≤ 65535 := by
    simp [Lit.wf, show IntKind.u16.min = 0 from rfl, show IntKind.u16.max = 65535 from rfl] at h1
    exact h1
  have ht : -2000000 ≤ a0.tmod 2000000 ∧ a0.tmod 2000000 ≤ 2000000 := by
    have h1 := Int.tmod_lt_of_pos a0 (show (0 : Int) < 2000000 by omega)
    have h2 := Int.lt_tmod_of_pos a0 (show (0 : Int) < 2000000 by omega)
    omega
  refine ⟨30000, ?_⟩
  unfold transposallaw04_DayNext.f
  generalize a0.tmod 2000000 = x at *
  rw [awake 30000 (by omega), w32 (x := a1) (by omega) (by omega), w32 (x := x + 1) (by omega) (by omega), w32 (x := x + 1 + a1) (by omega) (by omega)]
  simp only [Option.bind_some, if_true]
  rcases text_or x 30000 (by omega) with ⟨e1, e2⟩ | ⟨y, m, d, V, rfl, e1, e2⟩
  · rcases text_or (x + 1 + a1) 30000 (by omega) with ⟨f1, f2⟩ | ⟨y', m', d', V', _, f1, f2⟩ <;> rcases text_or (x + 1) 30000 (by omega) with ⟨g1, g2⟩ | ⟨y2, m2, d2, V2, _, g1, g2⟩
    all_goals
      rw [e1, f1, e2, g2]
      simp [toList_data]
  · rcases text_or (num y m d + 1 + a1) 30000 (by omega) with ⟨f1, f2⟩ | ⟨y', m', d', V', n', f1, f2⟩
    · rcases text_or (num y m d + 1) 30000 (by omega) with ⟨g1, g2⟩ | ⟨y2, m2, d2, V2, _, g1, g2⟩
      all_goals
        rw [e1, f1, e2, g2]
        simp only [Option.bind_some]
        rw [if_neg nil_text, if_pos (by rw [toList_data])]
    · rcases text_or (num y m d + 1) 30000 (by omega) with ⟨g1, g2⟩ | ⟨u, v, w, V2, n2, g1, g2⟩
      · rw [e1, f1, e2, g2]
        simp only [Option.bind_some]
        rw [if_neg nil_text, if_neg nil_text]
        simp only [if_true]
      · have hl : Op.bytesLess (⟨(textL y m d).toArray⟩ : ByteArray).toList (⟨(textL y' m' d').toArray⟩ : ByteArray).toList = true := by
          rw [toList_data, toList_data]
          exact text_less V V' (by omega)
        have hs := succ_date V V2 n2
        have b1 := mlen_bound y m
        have vv := V
        obtain ⟨v1, v2, v3, v4, v5, v6⟩ := vv
        have hu : ¬ u = 0 := by have := V2.1; omega
        rw [e1, f1, e2, g2]
        simp only [Option.bind_some]
        rw [if_neg nil_text, if_neg nil_text, if_neg hu, w64 (x := d + 1) (by omega) (by omega), w64 (x := m + 1) (by omega) (by omega), w64 (x := y + 1) (by omega) (by omega), hl]
        rcases hs with ⟨rfl, rfl, rfl⟩ | ⟨rfl, ⟨rfl, rfl⟩ | ⟨rfl, rfl, rfl⟩⟩
        · rw [if_pos rfl, if_pos rfl, if_pos rfl]
        · rw [if_pos rfl, if_neg (by omega), if_pos rfl, if_pos rfl]
        · rw [if_neg (by omega), if_pos rfl, if_neg (by omega), if_pos rfl, if_pos rfl, if_pos rfl]
end Go.Proofs.YtnbdcpgaceongaaDoor.Pure
