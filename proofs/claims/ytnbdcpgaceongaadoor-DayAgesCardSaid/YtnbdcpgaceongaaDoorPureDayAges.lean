/- DayAges, as its pure statement: a date four hundred years later is 146097 days later; of a year's dates each month's last is followed by the next one's first. No conditions. -/
import Derived.Test.YtnbdcpgaceongaaDoorXA7
import Derived.Test.YtnbdcpgaceongaaDoorPDayC
namespace Go.Proofs.YtnbdcpgaceongaaDoor.Pure
open Go.RowKit Go.Proofs.YtnbdcpgaceongaaDoorW.PrintWords Go.Proofs.YtnbdcpgaceongaaDoorW.PrintLast Go.Proofs.YtnbdcpgaceongaaDoor.XA Go.Proofs.YtnbdcpgaceongaaDoor.DayMath Go.Proofs.YtnbdcpgaceongaaDoor.PDay
set_option linter.unusedVariables false
set_option linter.unusedSimpArgs false
theorem leap_400 (y : Int) : leap (y + 400) = leap y := by
  have a := leap_iff y
  have b := leap_iff (y + 400)
  cases h : leap y <;> cases h' : leap (y + 400) <;> rw [h] at a <;> rw [h'] at b <;> simp at a b ⊢ <;> omega
theorem mlen_400 (y m : Int) : mlen (y + 400) m = mlen y m := by unfold mlen; rw [leap_400]
theorem cumN_400 (y : Int) : ∀ k, cumN (y + 400) k = cumN y k
  | 0 => rfl
  | k + 1 => by rw [cumN, cumN, cumN_400 y k, mlen_400]
theorem ah_400 (y : Int) : ah (y + 400) = ah y + 146097 := by unfold ah; omega
theorem num_400 (y m d : Int) : num (y + 400) m d = num y m d + 146097 := by unfold num cum; rw [ah_400, cumN_400]; omega
theorem DayAges : transposallaw04_DayAges.Pure := by
  intro a0 a1 a2 h0 h1 h2
  have b0 : 0 ≤ a0 ∧ a0 ≤ 65535 := by
    simp [Lit.wf, show IntKind.u16.min = 0 from rfl, show IntKind.u16.max = 65535 from rfl] at h0
    exact h0
  have b1 : 0 ≤ a1 ∧ a1 ≤ 255 := by
    simp [Lit.wf, show IntKind.u8.min = 0 from rfl, show IntKind.u8.max = 255 from rfl] at h1
    exact h1
  have b2 : 0 ≤ a2 ∧ a2 ≤ 255 := by
    simp [Lit.wf, show IntKind.u8.min = 0 from rfl, show IntKind.u8.max = 255 from rfl] at h2
    exact h2
  refine ⟨40001, ?_⟩
  unfold transposallaw04_DayAges.f
  rw [w64 (x := a0) (by omega) (by omega), w64 (x := a1) (by omega) (by omega), w64 (x := a2) (by omega) (by omega), tmodn (a := a0) (by omega), tmodn (a := a1) (by omega), tmodn (a := a2) (by omega)]
  rw [w64 (x := 1 + a0 % 9500) (by omega) (by omega), w64 (x := 1 + a1 % 12) (by omega) (by omega), w64 (x := 1 + a2 % 31) (by omega) (by omega)]
  obtain ⟨y, hy, y1, y2⟩ : ∃ y, 1 + a0 % 9500 = y ∧ 1 ≤ y ∧ y ≤ 9500 := ⟨_, rfl, by omega, by omega⟩
  obtain ⟨m, hm, m1, m2⟩ : ∃ m, 1 + a1 % 12 = m ∧ 1 ≤ m ∧ m ≤ 12 := ⟨_, rfl, by omega, by omega⟩
  obtain ⟨d, hd, d1, d2⟩ : ∃ d, 1 + a2 % 31 = d ∧ 1 ≤ d ∧ d ≤ 31 := ⟨_, rfl, by omega, by omega⟩
  rw [hy, hm, hd, tdivn (a := m) (by omega), tmodn (a := m) (by omega), w64 (x := y + 400) (by omega) (by omega), w64 (x := m / 12) (by omega) (by omega), w64 (x := y + m / 12) (by omega) (by omega), w64 (x := m % 12 + 1) (by omega) (by omega), awake 40001 (by omega), lawmonth_eq (by omega) m1 m2 40000]
  clear hy hm hd h0 h1 h2 b0 b1 b2
  have bm := mlen_bound y m
  have bm2 := mlen_bound (y + m / 12) (m % 12 + 1)
  have V1 : Valid y m 1 := ⟨y1, by omega, m1, m2, by omega, by omega⟩
  have V3 : Valid y m (mlen y m) := ⟨y1, by omega, m1, m2, by omega, by omega⟩
  have V2 : Valid (y + m / 12) (m % 12 + 1) 1 := ⟨by omega, by omega, by omega, by omega, by omega, by omega⟩
  have r1 := num_range V1
  have r2 := num_range V2
  have r3 := num_range V3
  have hn : num (y + m / 12) (m % 12 + 1) 1 = num y m (mlen y m) + 1 := by
    have hs := cum_succ y m m1
    rcases Int.lt_or_le m 12 with h | h
    · rw [show m / 12 = 0 by omega, show m % 12 = m by omega, Int.add_zero]
      unfold num
      omega
    · obtain rfl : m = 12 := by omega
      have h13 := cum_13 y
      have ha := ah_succ y
      have c1 := cum_1 (y + 1)
      rw [show (12 : Int) + 1 = 13 by omega] at hs
      show num (y + 1) 1 1 = _
      unfold num
      omega
  have hl : num y m (mlen y m) = num y m 1 + mlen y m - 1 := by unfold num; omega
  rw [of_eq V1 40001 (by omega), of_eq V2 40001 (by omega)]
  simp only [Option.bind_some, if_true]
  rw [of_eq V3 40001 (by omega)]
  simp only [Option.bind_some, if_true]
  rw [w32 (x := num y m (mlen y m) + 1) (by omega) (by omega), w32 (x := num (y + m / 12) (m % 12 + 1) 1 - num y m 1) (by omega) (by omega), w64 (x := num (y + m / 12) (m % 12 + 1) 1 - num y m 1) (by omega) (by omega), if_pos hn]
  have he : (num (y + m / 12) (m % 12 + 1) 1 - num y m 1 == mlen y m) = true := beq_iff_eq.mpr (by omega)
  rw [he]
  by_cases V : Valid y m d
  · have V4 : Valid (y + 400) m d := by
      obtain ⟨v1, v2, v3, v4, v5, v6⟩ := V
      exact ⟨by omega, by omega, v3, v4, v5, by rw [mlen_400]; exact v6⟩
    have r4 := num_range V
    rw [of_eq V 40001 (by omega), of_eq V4 40001 (by omega)]
    simp only [Option.bind_some, if_true, BEq.rfl]
    rw [if_pos]
    rw [num_400, w32 (by omega) (by omega)]
    omega
  · have V4 : ¬ Valid (y + 400) m d := fun h => V (by
      obtain ⟨v1, v2, v3, v4, v5, v6⟩ := h
      exact ⟨y1, by omega, v3, v4, v5, by rw [mlen_400] at v6; exact v6⟩)
    rw [of_none V 40001 (by omega), of_none V4 40001 (by omega)]
    simp
end Go.Proofs.YtnbdcpgaceongaaDoor.Pure
