/- Plain mathematics of days: how many days lie ahead of a year, a month; valid dates and their numbers are one to one, and rise together. No program in sight. -/
namespace Go.Proofs.YtddaogebacigbaaGreatDoor.DayMath

def leap (y : Int) : Bool := decide (y % 4 = 0) && (!decide (y % 100 = 0) || decide (y % 400 = 0))
def ylen (y : Int) : Int := if leap y then 366 else 365
def mlen (y m : Int) : Int := if m = 2 then (if leap y then 29 else 28) else if m = 4 ∨ m = 6 ∨ m = 9 ∨ m = 11 then 30 else 31
def ah (y : Int) : Int := 365 * (y - 1) + (y - 1) / 4 - (y - 1) / 100 + (y - 1) / 400 - 719162
def cumN (y : Int) : Nat → Int
  | 0 => 0
  | m + 1 => cumN y m + mlen y ((m : Int) + 1)
/-- How many days of the year lie ahead of month m. -/
def cum (y m : Int) : Int := cumN y (m - 1).toNat
def num (y m d : Int) : Int := ah y + cum y m + d - 1
def Valid (y m d : Int) : Prop := 1 ≤ y ∧ y ≤ 9999 ∧ 1 ≤ m ∧ m ≤ 12 ∧ 1 ≤ d ∧ d ≤ mlen y m
instance (y m d : Int) : Decidable (Valid y m d) := by unfold Valid; exact inferInstance

theorem leap_iff (y : Int) : leap y = true ↔ y % 4 = 0 ∧ (y % 100 ≠ 0 ∨ y % 400 = 0) := by
  unfold leap
  simp only [Bool.and_eq_true, Bool.or_eq_true, Bool.not_eq_true', decide_eq_true_eq, decide_eq_false_iff_not, ne_eq]
theorem ylen_cases (y : Int) : (ylen y = 366 ∧ leap y = true) ∨ (ylen y = 365 ∧ leap y = false) := by
  unfold ylen
  cases leap y <;> simp
theorem ah_succ (y : Int) : ah (y + 1) = ah y + ylen y := by
  have h := leap_iff y
  rcases ylen_cases y with ⟨e, hl⟩ | ⟨e, hl⟩ <;> rw [e] <;> rw [hl] at h <;> simp at h <;> unfold ah <;> omega
theorem ah_1 : ah 1 = -719162 := by decide
theorem ah_1970 : ah 1970 = 0 := by decide
theorem ah_10000 : ah 10000 = 2932897 := by decide
theorem ah_mono {a b : Int} (h : a ≤ b) : ah a ≤ ah b := by unfold ah; omega
theorem ah_lt {a b : Int} (h : a < b) : ah a + 365 ≤ ah b := by unfold ah; omega
theorem ah_bound {y : Int} (h1 : 0 ≤ y) (h2 : y ≤ 100000) : -719893 ≤ ah y ∧ ah y ≤ 40000000 := by unfold ah; omega
theorem mlen_bound (y m : Int) : 28 ≤ mlen y m ∧ mlen y m ≤ 31 := by
  unfold mlen
  split
  · split <;> omega
  · split <;> omega
theorem cum_succ (y m : Int) (h : 1 ≤ m) : cum y (m + 1) = cum y m + mlen y m := by
  unfold cum
  rw [show (m + 1 - 1).toNat = (m - 1).toNat + 1 by omega, cumN, show (((m - 1).toNat : Nat) : Int) + 1 = m by omega]
theorem cum_1 (y : Int) : cum y 1 = 0 := rfl
theorem cum_13 (y : Int) : cum y 13 = ylen y := by
  unfold cum ylen
  simp only [show ((13 : Int) - 1).toNat = 12 from rfl, cumN]
  cases h : leap y <;> simp [mlen, h]
theorem cum_mono (y : Int) : ∀ (j : Nat) (m : Int), 1 ≤ m → cum y m ≤ cum y (m + j)
  | 0, m, _ => by simp
  | j + 1, m, h => by
    have h1 := cum_mono y j m h
    have h2 := cum_succ y (m + j) (by omega)
    have h3 := mlen_bound y (m + j)
    rw [show m + ((j + 1 : Nat) : Int) = m + j + 1 by omega]
    omega
theorem cum_le {y a b : Int} (h1 : 1 ≤ a) (h : a ≤ b) : cum y a ≤ cum y b := by
  have := cum_mono y (b - a).toNat a h1
  rw [show a + ((b - a).toNat : Int) = b by omega] at this
  exact this
theorem cum_nonneg {y m : Int} (h : 1 ≤ m) : 0 ≤ cum y m := by
  have := cum_le (y := y) (a := 1) (b := m) (by omega) h
  rw [cum_1] at this
  exact this
theorem cum_bound {y m : Int} (h : 1 ≤ m) (h2 : m ≤ 13) : 0 ≤ cum y m ∧ cum y m ≤ 366 := by
  have h3 := cum_le (y := y) (a := m) (b := 13) h h2
  have h4 := cum_13 y
  refine ⟨cum_nonneg h, ?_⟩
  rcases ylen_cases y with ⟨e, _⟩ | ⟨e, _⟩ <;> omega
/-- A valid date's number lies in its year. -/
theorem num_in {y m d : Int} (h : Valid y m d) : ah y ≤ num y m d ∧ num y m d < ah (y + 1) ∧ cum y m ≤ num y m d - ah y ∧ num y m d - ah y < cum y (m + 1) := by
  obtain ⟨h1, h2, h3, h4, h5, h6⟩ := h
  have a := cum_succ y m h3
  have b := cum_le (y := y) (a := m + 1) (b := 13) (by omega) (by omega)
  have c := cum_13 y
  have e := ah_succ y
  have f := cum_nonneg (y := y) h3
  unfold num
  omega
/-- Dates in order, numbers in order. -/
theorem num_lt {y m d y' m' d' : Int} (h : Valid y m d) (h' : Valid y' m' d') (lt : y < y' ∨ y = y' ∧ (m < m' ∨ m = m' ∧ d < d')) : num y m d < num y' m' d' := by
  have a := num_in h
  have b := num_in h'
  rcases lt with lt | ⟨rfl, lt | ⟨rfl, lt⟩⟩
  · have := ah_mono (a := y + 1) (b := y') (by omega)
    omega
  · have := cum_le (y := y) (a := m + 1) (b := m') (by have := h.2.2.1; omega) (by omega)
    omega
  · unfold num
    omega
theorem num_lt_iff {y m d y' m' d' : Int} (h : Valid y m d) (h' : Valid y' m' d') : num y m d < num y' m' d' ↔ (y < y' ∨ y = y' ∧ (m < m' ∨ m = m' ∧ d < d')) := by
  refine ⟨fun hlt => ?_, num_lt h h'⟩
  rcases Decidable.em (y < y' ∨ y = y' ∧ (m < m' ∨ m = m' ∧ d < d')) with hc | hc
  · exact hc
  · have h2 : (y' < y ∨ y' = y ∧ (m' < m ∨ m' = m ∧ d' < d)) ∨ (y = y' ∧ m = m' ∧ d = d') := by omega
    rcases h2 with h2 | ⟨rfl, rfl, rfl⟩
    · have := num_lt h' h h2
      omega
    · omega
theorem num_inj {y m d y' m' d' : Int} (h : Valid y m d) (h' : Valid y' m' d') (e : num y m d = num y' m' d') : y = y' ∧ m = m' ∧ d = d' := by
  have a : ¬ (y < y' ∨ y = y' ∧ (m < m' ∨ m = m' ∧ d < d')) := fun hc => by have := num_lt h h' hc; omega
  have b : ¬ (y' < y ∨ y' = y ∧ (m' < m ∨ m' = m ∧ d' < d)) := fun hc => by have := num_lt h' h hc; omega
  omega
theorem num_range {y m d : Int} (h : Valid y m d) : -719162 ≤ num y m d ∧ num y m d < 2932897 := by
  have a := num_in h
  have b := ah_mono (a := 1) (b := y) h.1
  have c := ah_mono (a := y + 1) (b := 10000) (by have := h.2.1; omega)
  rw [ah_1] at b
  rw [ah_10000] at c
  omega
theorem num_first : num 1 1 1 = -719162 := by decide
theorem num_last : num 9999 12 31 = 2932896 := by decide
/-- Every number in the range is a valid date's. -/
theorem exists_month (y x : Int) : ∀ (j : Nat) (m : Int), 1 ≤ m → m + j = 13 → cum y m ≤ x → x < cum y 13 → ∃ m', m ≤ m' ∧ m' ≤ 12 ∧ cum y m' ≤ x ∧ x < cum y (m' + 1)
  | 0, m, _, e, h1, h2 => by
    rw [show m = 13 by omega] at h1
    omega
  | j + 1, m, hm, e, h1, h2 => by
    rcases Decidable.em (x < cum y (m + 1)) with h | h
    · exact ⟨m, by omega, by omega, h1, h⟩
    · obtain ⟨m', a, b, c⟩ := exists_month y x j (m + 1) (by omega) (by omega) (by omega) h2
      exact ⟨m', by omega, b, c⟩
theorem exists_year (n : Int) : ∀ (j : Nat) (y : Int), y + j = 10000 → 1 ≤ y → ah y ≤ n → n < ah 10000 → ∃ y', y ≤ y' ∧ y' ≤ 9999 ∧ ah y' ≤ n ∧ n < ah (y' + 1)
  | 0, y, e, _, h1, h2 => by
    rw [show y = 10000 by omega] at h1
    omega
  | j + 1, y, e, hy, h1, h2 => by
    rcases Decidable.em (n < ah (y + 1)) with h | h
    · exact ⟨y, by omega, by omega, h1, h⟩
    · obtain ⟨y', a, b, c⟩ := exists_year n j (y + 1) (by omega) (by omega) (by omega) h2
      exact ⟨y', by omega, b, c⟩
theorem exists_date {n : Int} (h1 : -719162 ≤ n) (h2 : n < 2932897) : ∃ y m d, Valid y m d ∧ num y m d = n := by
  obtain ⟨y, hy1, hy2, hy3, hy4⟩ := exists_year n 9999 1 (by omega) (by omega) (by rw [ah_1]; exact h1) (by rw [ah_10000]; exact h2)
  have e := ah_succ y
  have c := cum_13 y
  obtain ⟨m, hm1, hm2, hm3, hm4⟩ := exists_month y (n - ah y) 12 1 (by omega) (by omega) (by rw [cum_1]; omega) (by omega)
  have s := cum_succ y m hm1
  exact ⟨y, m, n - ah y - cum y m + 1, ⟨hy1, hy2, hm1, hm2, by omega, by omega⟩, by unfold num; omega⟩
end Go.Proofs.YtddaogebacigbaaGreatDoor.DayMath
