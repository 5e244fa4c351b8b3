/- What the printed functions of layer 4 (day) come to, in plain numbers: a day's date, a date's day, the law's own count of days. Conditions: as each says. -/
import Derived.Test.YtddaogebacigbaaGreatDoorXA13
import Derived.Test.YtddaogebacigbaaGreatDoorXA3
import Derived.Test.YtddaogebacigbaaGreatDoorXA6
import Derived.Test.YtddaogebacigbaaGreatDoorDayMath
namespace Go.Proofs.YtddaogebacigbaaGreatDoor.PDay
open Go.RowKit Go.Proofs.YtddaogebacigbaaGreatDoorW.PrintWords Go.Proofs.YtddaogebacigbaaGreatDoorW.PrintLast Go.Proofs.YtddaogebacigbaaGreatDoor.XA Go.Proofs.YtddaogebacigbaaGreatDoor.DayMath
set_option linter.unusedVariables false
set_option linter.unusedSimpArgs false

theorem w64 {x : Int} (h1 : -9223372036854775808 ≤ x) (h2 : x ≤ 9223372036854775807) : wrap64 x = x := by unfold wrap64; omega
theorem w32 {x : Int} (h1 : -2147483648 ≤ x) (h2 : x ≤ 2147483647) : wrap32 x = x := by unfold wrap32; omega
theorem tdivn {a b : Int} (h : 0 ≤ a) : a.tdiv b = a / b := Int.tdiv_eq_ediv_of_nonneg h
theorem tmodn {a b : Int} (h : 0 ≤ a) : a.tmod b = a % b := Int.tmod_eq_emod_of_nonneg h

theorem ahead_eq {y : Int} (h0 : 1 ≤ y) (h1 : y ≤ 100000) : day_ahead.f y = some (ah y) := by
  unfold day_ahead.f ah
  rw [w64 (x := y - 1) (by omega) (by omega), tdivn (a := y - 1) (b := 4) (by omega), tdivn (a := y - 1) (b := 100) (by omega), tdivn (a := y - 1) (b := 400) (by omega),
    w64 (x := 365 * (y - 1)) (by omega) (by omega), w64 (x := (y - 1) / 4) (by omega) (by omega), w64 (x := (y - 1) / 100) (by omega) (by omega), w64 (x := (y - 1) / 400) (by omega) (by omega)]
  rw [w64 (x := 365 * (y - 1) + (y - 1) / 4) (by omega) (by omega), w64 (x := 365 * (y - 1) + (y - 1) / 4 - (y - 1) / 100) (by omega) (by omega), w64 (x := 365 * (y - 1) + (y - 1) / 4 - (y - 1) / 100 + (y - 1) / 400) (by omega) (by omega), w64 (by omega) (by omega)]
theorem leap_eq {y : Int} (h0 : 0 ≤ y) : day_leap.f y = some (leap y) := by
  unfold day_leap.f leap
  rw [tmodn h0, tmodn h0, tmodn h0]
  split
  · rename_i h
    split
    · rename_i h2
      congr 1
      simp [h, h2]
      rfl
    · rename_i h2
      simp [h, h2]
  · rename_i h
    simp [h]
theorem month_cases {m : Int} (h1 : 1 ≤ m) (h2 : m ≤ 12) : m = 1 ∨ m = 2 ∨ m = 3 ∨ m = 4 ∨ m = 5 ∨ m = 6 ∨ m = 7 ∨ m = 8 ∨ m = 9 ∨ m = 10 ∨ m = 11 ∨ m = 12 := by omega
theorem long_eq {y m : Int} (h0 : 0 ≤ y) (h1 : 1 ≤ m) (h2 : m ≤ 12) : day_long.f y m = some (mlen y m) := by
  unfold day_long.f
  rw [leap_eq h0]
  rcases month_cases h1 h2 with rfl | rfl | rfl | rfl | rfl | rfl | rfl | rfl | rfl | rfl | rfl | rfl
  case inr.inl => simp only [if_pos, Option.bind_some, mlen]; cases leap y <;> rfl
  all_goals rfl
theorem lawyear_eq {y : Int} (h0 : 0 ≤ y) : transposallaw04_year.f y = some (ylen y) := by
  unfold transposallaw04_year.f ylen leap
  rw [tmodn h0, tmodn h0, tmodn h0]
  by_cases h4 : y % 4 = 0 <;> by_cases h1 : y % 100 = 0 <;> by_cases h400 : y % 400 = 0
  all_goals first
    | (exfalso; omega)
    | (simp only [h4, h1, h400, if_true, if_false, decide_true, decide_false, Bool.and_true, Bool.true_and, Bool.false_and, Bool.not_true, Bool.not_false, Bool.or_true, Bool.or_false, Bool.true_or, Bool.false_or, reduceIte, Bool.false_eq_true]; done)
theorem lawmonth_eq {y m : Int} (h0 : 0 ≤ y) (h1 : 1 ≤ m) (h2 : m ≤ 12) (k : Nat) : transposallaw04_month.f (k + 1) y m = some (mlen y m) := by
  have hy := lawyear_eq h0
  rcases month_cases h1 h2 with rfl | rfl | rfl | rfl | rfl | rfl | rfl | rfl | rfl | rfl | rfl | rfl
  case inr.inl =>
    simp only [transposallaw04_month.f, transposallaw04_month.j0]
    simp [hy]
    unfold ylen mlen
    have e1 : wrap64 (366 - 337) = 29 := w64 (by omega) (by omega)
    have e2 : wrap64 (365 - 337) = 28 := w64 (by omega) (by omega)
    cases leap y
    · simpa using e2
    · simpa using e1
  all_goals rfl

/-! ### Date -/
theorem date_l2 {y m' d' : Int} (V : Valid y m' d') : ∀ (j : Nat) (m x : Int) (k : Nat), 1 ≤ m → m + j = m' → x = cum y m' + d' - 1 - cum y m → j < k → day_Day_Date.l2 k y m x = some (y, m', d')
  | 0, m, x, k, hm, e, hx, hk => by
    obtain ⟨k, rfl⟩ : ∃ q, k = q + 1 := ⟨k - 1, by omega⟩
    obtain rfl : m = m' := by omega
    obtain ⟨v1, v2, v3, v4, v5, v6⟩ := V
    have hb := mlen_bound y m
    simp only [day_Day_Date.l2]
    rw [long_eq (by omega) v3 v4]
    simp only [Option.bind_some]
    rw [if_neg (by omega), w64 (by omega) (by omega)]
    congr 3
    omega
  | j + 1, m, x, k, hm, e, hx, hk => by
    obtain ⟨k, rfl⟩ : ∃ q, k = q + 1 := ⟨k - 1, by omega⟩
    have V' := V
    obtain ⟨v1, v2, v3, v4, v5, v6⟩ := V'
    have hb := mlen_bound y m'
    have h1 := cum_succ y m hm
    have h2 := cum_le (y := y) (a := m + 1) (b := m') (by omega) (by omega)
    have h3 := cum_bound (y := y) (m := m') (by omega) (by omega)
    have h4 := cum_nonneg (y := y) (m := m) hm
    have h5 := mlen_bound y m
    simp only [day_Day_Date.l2]
    rw [long_eq (by omega) hm (by omega)]
    simp only [Option.bind_some]
    rw [if_pos (by omega), w64 (x := m + 1) (by omega) (by omega), w64 (x := x - mlen y m) (by omega) (by omega)]
    exact date_l2 V j (m + 1) (x - mlen y m) k (by omega) (by omega) (by omega) (by omega)
theorem date_l1 {y m d : Int} (V : Valid y m d) : ∀ (j : Nat) (z : Int) (k : Nat), 1 ≤ z → z + j = y → j + 14 < k → day_Day_Date.l1 k (num y m d) z = some (y, m, d)
  | 0, z, k, hz, e, hk => by
    obtain ⟨k, rfl⟩ : ∃ q, k = q + 1 := ⟨k - 1, by omega⟩
    obtain rfl : z = y := by omega
    have V' := V
    obtain ⟨v1, v2, v3, v4, v5, v6⟩ := V'
    have hn := num_in V
    have hr := num_range V
    have hb := ah_bound (y := z) (by omega) (by omega)
    simp only [day_Day_Date.l1]
    rw [w64 (x := z + 1) (by omega) (by omega), ahead_eq (y := z + 1) (by omega) (by omega), ahead_eq (y := z) (by omega) (by omega)]
    simp only [Option.bind_some]
    rw [w64 (x := num z m d) (by omega) (by omega), if_neg (by omega), w64 (by omega) (by omega)]
    exact date_l2 V (m - 1).toNat 1 _ k (by omega) (by omega) (by rw [cum_1]; unfold num; omega) (by omega)
  | j + 1, z, k, hz, e, hk => by
    obtain ⟨k, rfl⟩ : ∃ q, k = q + 1 := ⟨k - 1, by omega⟩
    have V' := V
    obtain ⟨v1, v2, v3, v4, v5, v6⟩ := V'
    have hn := num_in V
    have hr := num_range V
    have hm := ah_mono (a := z + 1) (b := y) (by omega)
    simp only [day_Day_Date.l1]
    rw [w64 (x := z + 1) (by omega) (by omega), ahead_eq (y := z + 1) (by omega) (by omega)]
    simp only [Option.bind_some]
    rw [w64 (x := num y m d) (by omega) (by omega), if_pos (by omega)]
    exact date_l1 V j (z + 1) k (by omega) (by omega) (by omega)
theorem date_l0 {y m d : Int} (V : Valid y m d) : ∀ (j : Nat) (z : Int) (k : Nat), z = j + 1 → z ≤ 100000 → j + 10020 < k → day_Day_Date.l0 k (num y m d) z = some (y, m, d)
  | j, z, k, e, hz, hk => by
    obtain ⟨k, rfl⟩ : ∃ q, k = q + 1 := ⟨k - 1, by omega⟩
    have V' := V
    obtain ⟨v1, v2, v3, v4, v5, v6⟩ := V'
    have hn := num_in V
    have hr := num_range V
    simp only [day_Day_Date.l0]
    rw [ahead_eq (y := z) (by omega) hz]
    simp only [Option.bind_some]
    rw [w64 (x := num y m d) (by omega) (by omega)]
    by_cases hc : num y m d < ah z
    · rw [if_pos hc, w64 (x := z - 1) (by omega) (by omega)]
      match j, e with
      | 0, e =>
        obtain rfl : z = 1 := by omega
        rw [ah_1] at hc
        omega
      | j + 1, e => exact date_l0 V j (z - 1) k (by omega) (by omega) (by omega)
    · rw [if_neg hc]
      have hy : z ≤ y := by
        rcases Int.lt_or_le y z with h | h
        · have := ah_mono (a := y + 1) (b := z) (by omega)
          omega
        · exact h
      exact date_l1 V (y - z).toNat z k (by omega) (by omega) (by omega)
/-- A valid date's number: the date. -/
theorem date_eq {y m d : Int} (V : Valid y m d) (k : Nat) (hk : 25000 ≤ k) : day_Day_Date.f k (num y m d) = some (y, m, d) := by
  obtain ⟨k, rfl⟩ : ∃ q, k = q + 1 := ⟨k - 1, by omega⟩
  have hr := num_range V
  unfold day_Day_Date.f
  rw [ahead_eq (by omega) (by omega), ahead_eq (by omega) (by omega)]
  simp only [Option.bind_some]
  rw [ah_1, ah_10000, w32 (by omega) (by omega), w32 (by omega) (by omega), if_neg (by omega)]
  simp only [day_Day_Date.j0]
  rw [if_neg (by simp; omega), w64 (x := num y m d) (by omega) (by omega)]
  have ht : -1965 ≤ (num y m d).tdiv 366 ∧ (num y m d).tdiv 366 ≤ 8014 := by
    rcases Int.lt_or_le (num y m d) 0 with h | h
    · have e : (num y m d).tdiv 366 = -((-(num y m d)) / 366) := by
        rw [← Int.tdiv_eq_ediv_of_nonneg (by omega), Int.neg_tdiv]
        omega
      rw [e]
      omega
    · rw [tdivn h]
      omega
  rw [w64 (x := (num y m d).tdiv 366) (by omega) (by omega), w64 (by omega) (by omega)]
  exact date_l0 V (1970 + (num y m d).tdiv 366 - 1).toNat _ k (by omega) (by omega) (by omega)
/-- A number that is no day: noughts. -/
theorem date_none {n : Int} (h : n < -719162 ∨ 2932897 ≤ n) (k : Nat) (hk : 1 ≤ k) : day_Day_Date.f k n = some (0, 0, 0) := by
  obtain ⟨k, rfl⟩ : ∃ q, k = q + 1 := ⟨k - 1, by omega⟩
  unfold day_Day_Date.f
  rw [ahead_eq (by omega) (by omega), ahead_eq (by omega) (by omega)]
  simp only [Option.bind_some]
  rw [ah_1, ah_10000, w32 (by omega) (by omega), w32 (by omega) (by omega)]
  rcases h with h | h
  · rw [if_pos h]
    simp only [day_Day_Date.j0, if_true]
  · rw [if_neg (by omega)]
    simp only [day_Day_Date.j0]
    rw [if_pos (by simp; omega)]

/-! ### Of -/
theorem of_l0 {y m d : Int} (V : Valid y m d) : ∀ (j : Nat) (z x : Int) (k : Nat), 1 ≤ z → z + j = m → x = ah y + d - 1 + cum y z → j < k → day_Of.l0 k y m x z = some (num y m d, true)
  | 0, z, x, k, hz, e, hx, hk => by
    obtain ⟨k, rfl⟩ : ∃ q, k = q + 1 := ⟨k - 1, by omega⟩
    obtain rfl : z = m := by omega
    have hr := num_range V
    simp only [day_Of.l0]
    rw [if_neg (by omega)]
    have e : x = num y z d := by unfold num; omega
    rw [e, w32 (by omega) (by omega)]
  | j + 1, z, x, k, hz, e, hx, hk => by
    obtain ⟨k, rfl⟩ : ∃ q, k = q + 1 := ⟨k - 1, by omega⟩
    have V' := V
    obtain ⟨v1, v2, v3, v4, v5, v6⟩ := V'
    have hb := ah_bound (y := y) (by omega) (by omega)
    have hl := mlen_bound y z
    have hd := mlen_bound y m
    have hc := cum_bound (y := y) (m := z) (by omega) (by omega)
    have hs := cum_succ y z hz
    simp only [day_Of.l0]
    rw [if_pos (by omega), long_eq (by omega) hz (by omega)]
    simp only [Option.bind_some]
    rw [w64 (by omega) (by omega), w64 (by omega) (by omega)]
    exact of_l0 V j (z + 1) _ k (by omega) (by omega) (by omega) (by omega)
theorem of_eq {y m d : Int} (V : Valid y m d) (k : Nat) (hk : 20 ≤ k) : day_Of.f k y m d = some (num y m d, true) := by
  obtain ⟨k, rfl⟩ : ∃ q, k = q + 1 := ⟨k - 1, by omega⟩
  have V' := V
  obtain ⟨v1, v2, v3, v4, v5, v6⟩ := V'
  have hb := ah_bound (y := y) (by omega) (by omega)
  have hd := mlen_bound y m
  unfold day_Of.f
  rw [if_neg (by omega), if_neg (by omega), if_neg (by omega), if_neg (by omega), if_neg (by omega), long_eq (by omega) v3 v4]
  simp only [Option.bind_some, day_Of.j0]
  rw [if_neg (by simp; omega), ahead_eq v1 (by omega)]
  simp only [Option.bind_some]
  rw [w64 (x := ah y + d) (by omega) (by omega), w64 (by omega) (by omega)]
  exact of_l0 V (m - 1).toNat 1 _ k (by omega) (by omega) (by rw [cum_1]; omega) (by omega)
theorem of_none {y m d : Int} (V : ¬ Valid y m d) (k : Nat) (hk : 1 ≤ k) : day_Of.f k y m d = some (0, false) := by
  obtain ⟨k, rfl⟩ : ∃ q, k = q + 1 := ⟨k - 1, by omega⟩
  unfold day_Of.f
  by_cases h1 : y < 1
  · rw [if_pos h1]; simp [day_Of.j0]
  rw [if_neg h1]
  by_cases h2 : y > 9999
  · rw [if_pos h2]; simp [day_Of.j0]
  rw [if_neg h2]
  by_cases h3 : m < 1
  · rw [if_pos h3]; simp [day_Of.j0]
  rw [if_neg h3]
  by_cases h4 : m > 12
  · rw [if_pos h4]; simp [day_Of.j0]
  rw [if_neg h4]
  by_cases h5 : d < 1
  · rw [if_pos h5]; simp [day_Of.j0]
  rw [if_neg h5, long_eq (by omega) (by omega) (by omega)]
  simp only [Option.bind_some, day_Of.j0]
  rw [if_pos]
  simp only [decide_eq_true_eq]
  have : ¬ d ≤ mlen y m := fun h => V ⟨by omega, by omega, by omega, by omega, by omega, h⟩
  omega

/-! ### the law's own count -/
theorem number_l2 {y m d : Int} (h0 : 1 ≤ y) (h1 : y ≤ 20000) (h2 : 1 ≤ m) (h3 : m ≤ 12) (h4 : 0 ≤ d) (h5 : d ≤ 400) : ∀ (j : Nat) (z x : Int) (k : Nat), 1 ≤ z → z + j = m → x = ah y + cum y z → j + 1 < k → transposallaw04_Number.l2 k y m d x z = some (num y m d)
  | 0, z, x, k, hz, e, hx, hk => by
    obtain ⟨k, rfl⟩ : ∃ q, k = q + 1 := ⟨k - 1, by omega⟩
    obtain rfl : z = m := by omega
    have hb := ah_bound (y := y) (by omega) (by omega)
    have hc := cum_bound (y := y) (m := z) (by omega) (by omega)
    simp only [transposallaw04_Number.l2]
    rw [if_neg (by omega), w64 (x := x + d) (by omega) (by omega), w64 (by omega) (by omega)]
    congr 1
    unfold num
    omega
  | j + 1, z, x, k, hz, e, hx, hk => by
    obtain ⟨k, rfl⟩ : ∃ q, k = q + 2 := ⟨k - 2, by omega⟩
    have hb := ah_bound (y := y) (by omega) (by omega)
    have hl := mlen_bound y z
    have hc := cum_bound (y := y) (m := z) (by omega) (by omega)
    have hs := cum_succ y z hz
    simp only [transposallaw04_Number.l2]
    rw [if_pos (by omega), lawmonth_eq (by omega) hz (by omega)]
    simp only [Option.bind_some]
    rw [w64 (by omega) (by omega), w64 (by omega) (by omega)]
    exact number_l2 h0 h1 h2 h3 h4 h5 j (z + 1) _ (k + 1) (by omega) (by omega) (by omega) (by omega)
theorem number_l1 {y m d : Int} (h0 : 1 ≤ y) (h1 : y ≤ 20000) (h2 : 1 ≤ m) (h3 : m ≤ 12) (h4 : 0 ≤ d) (h5 : d ≤ 400) : ∀ (j : Nat) (z x : Int) (k : Nat), y ≤ z → (1970 ≤ z ∧ j = 0 ∨ z + j = 1970) → (z ≤ 1970 → x = ah y - ah z) → (1970 < z → x = ah y) → j + 20 < k → transposallaw04_Number.l1 k y m d x z = some (num y m d)
  | 0, z, x, k, hz, e, hx, hx2, hk => by
    obtain ⟨k, rfl⟩ : ∃ q, k = q + 1 := ⟨k - 1, by omega⟩
    simp only [transposallaw04_Number.l1]
    rw [if_neg (by omega)]
    have ex : x = ah y := by
      rcases Int.lt_or_le 1970 z with h | h
      · exact hx2 h
      · obtain rfl : z = 1970 := by omega
        have := hx (by omega)
        rw [ah_1970] at this
        omega
    exact number_l2 h0 h1 h2 h3 h4 h5 (m - 1).toNat 1 x k (by omega) (by omega) (by rw [cum_1]; omega) (by omega)
  | j + 1, z, x, k, hz, e, hx, hx2, hk => by
    obtain ⟨k, rfl⟩ : ∃ q, k = q + 1 := ⟨k - 1, by omega⟩
    have ez : z + ((j + 1 : Nat) : Int) = 1970 := by omega
    have hb := ah_bound (y := y) (by omega) (by omega)
    have hb2 := ah_bound (y := z) (by omega) (by omega)
    have hs := ah_succ z
    have hl : ylen z = 365 ∨ ylen z = 366 := by rcases ylen_cases z with ⟨a, _⟩ | ⟨a, _⟩ <;> omega
    have hx := hx (by omega)
    simp only [transposallaw04_Number.l1]
    rw [if_pos (by omega), lawyear_eq (by omega)]
    simp only [Option.bind_some]
    rw [w64 (x := z + 1) (by omega) (by omega), w64 (by omega) (by omega)]
    exact number_l1 h0 h1 h2 h3 h4 h5 j (z + 1) _ k (by omega) (by omega) (fun _ => by omega) (fun _ => by omega) (by omega)
theorem number_l0 {y m d : Int} (h0 : 1 ≤ y) (h1 : y ≤ 20000) (h2 : 1 ≤ m) (h3 : m ≤ 12) (h4 : 0 ≤ d) (h5 : d ≤ 400) : ∀ (j : Nat) (z x : Int) (k : Nat), 1970 ≤ z → (y ≤ z ∧ j = 0 ∧ (1970 < z → z = y) ∨ z + j = y) → x = ah z → j + 2020 < k → transposallaw04_Number.l0 k y m d x z = some (num y m d)
  | 0, z, x, k, hz, e, hx, hk => by
    obtain ⟨k, rfl⟩ : ∃ q, k = q + 1 := ⟨k - 1, by omega⟩
    simp only [transposallaw04_Number.l0]
    rw [if_neg (by omega)]
    rcases Int.lt_or_le y 1970 with h | h
    · obtain rfl : z = 1970 := by omega
      rw [ah_1970] at hx
      exact number_l1 h0 h1 h2 h3 h4 h5 (1970 - y).toNat y x k (by omega) (by omega) (fun _ => by omega) (fun _ => by omega) (by omega)
    · obtain rfl : z = y := by omega
      exact number_l1 h0 h1 h2 h3 h4 h5 0 z x k (by omega) (by omega) (fun h' => by obtain rfl : z = 1970 := (by omega); rw [ah_1970] at hx ⊢; omega) (fun _ => hx) (by omega)
  | j + 1, z, x, k, hz, e, hx, hk => by
    obtain ⟨k, rfl⟩ : ∃ q, k = q + 1 := ⟨k - 1, by omega⟩
    have hb := ah_bound (y := z) (by omega) (by omega)
    have hs := ah_succ z
    have hl : ylen z = 365 ∨ ylen z = 366 := by rcases ylen_cases z with ⟨a, _⟩ | ⟨a, _⟩ <;> omega
    simp only [transposallaw04_Number.l0]
    rw [if_pos (by omega), lawyear_eq (by omega)]
    simp only [Option.bind_some]
    rw [w64 (x := z + 1) (by omega) (by omega), w64 (by omega) (by omega)]
    exact number_l0 h0 h1 h2 h3 h4 h5 j (z + 1) _ k (by omega) (by omega) (by omega) (by omega)
theorem number_eq {y m d : Int} (h0 : 1 ≤ y) (h1 : y ≤ 20000) (h2 : 1 ≤ m) (h3 : m ≤ 12) (h4 : 0 ≤ d) (h5 : d ≤ 400) (k : Nat) (hk : 30000 ≤ k) : transposallaw04_Number.f k y m d = some (num y m d) := by
  unfold transposallaw04_Number.f
  exact number_l0 h0 h1 h2 h3 h4 h5 (y - 1970).toNat 1970 0 k (by omega) (by omega) (by rw [ah_1970]) (by omega)
end Go.Proofs.YtddaogebacigbaaGreatDoor.PDay
