/- What the printed functions of charts come to, in plain words: finding, ways. Charts of at most a hundred accounts, by rising codes. -/
import Derived.Test.YtddaogebacigbaaGreatDoorXA0
import Derived.Test.YtddaogebacigbaaGreatDoorXA5
import Derived.Test.YtddaogebacigbaaGreatDoorXA6
import Derived.Test.YtddaogebacigbaaGreatDoorXA2
import Derived.Test.YtddaogebacigbaaGreatDoorChartMath
namespace Go.Proofs.YtddaogebacigbaaGreatDoor.PChart
open Go.RowKit Go.Proofs.YtddaogebacigbaaGreatDoorW.PrintWords Go.Proofs.YtddaogebacigbaaGreatDoorW.PrintLast Go.Proofs.YtddaogebacigbaaGreatDoor.XA Go.Proofs.YtddaogebacigbaaGreatDoor.ChartMath
set_option linter.unusedVariables false
set_option linter.unusedSimpArgs false
theorem w64 {x : Int} (h1 : -9223372036854775808 ≤ x) (h2 : x ≤ 9223372036854775807) : wrap64 x = x := by unfold wrap64; omega
theorem rd_get {l : List Int} {i : Nat} (h : i < l.length) : rd l (i : Int) = l[i] := by
  show l.getD (i : Int).toNat 0 = _
  rw [Int.toNat_natCast, List.getD_eq_getElem?_getD, List.getElem?_eq_getElem h]
  rfl
abbrev rdA := rd_T109
abbrev zA := z109
def row : Option Acc → Int × ByteArray × Int × Int × Bool
  | none => (0, (⟨#[]⟩ : ByteArray), 0, 0, false)
  | some a => (a.f0, a.f1, a.f2, a.f3, true)
theorem rdA_get {c : List Acc} {i : Nat} (h : i < c.length) : rdA c (i : Int) = c[i] := by
  show c.getD (i : Int).toNat zA = _
  rw [Int.toNat_natCast, List.getD_eq_getElem?_getD, List.getElem?_eq_getElem h]
  rfl
/-! ### by going through all -/
theorem get_go (c : List Acc) (n : Int) (hc : c.length ≤ 250) : ∀ (j i : Nat), i + j = c.length → ∀ k, j < k → transposallaw06_get.l0 k n c (c.length : Int) (i : Int) = some (row (find (c.drop i) n))
  | 0, i, h, 0, hk => by omega
  | 0, i, h, k + 1, hk => by
    simp only [transposallaw06_get.l0]
    rw [if_neg (by omega), List.drop_eq_nil_of_le (by omega)]
    rfl
  | j + 1, i, h, 0, hk => by omega
  | j + 1, i, h, k + 1, hk => by
    have hi : i < c.length := by omega
    simp only [transposallaw06_get.l0]
    rw [if_pos (by omega), if_pos (by omega), if_pos (by omega)]
    have e := rdA_get hi
    unfold rdA at e
    rw [e, List.drop_eq_getElem_cons hi]
    by_cases hn : c[i].f0 = n
    · rw [if_pos hn]
      unfold find
      rw [List.find?_cons_of_pos (by simp [hn])]
      rfl
    · rw [if_neg hn, w64 (by omega) (by omega)]
      have := get_go c n hc j (i + 1) (by omega) k (by omega)
      rw [show ((i + 1 : Nat) : Int) = (i : Int) + 1 by omega] at this
      rw [this]
      unfold find
      rw [List.find?_cons_of_neg (by simp [hn])]
theorem get_eq {c : List Acc} (n : Int) (hc : c.length ≤ 250) (k : Nat) (hk : 300 ≤ k) : transposallaw06_get.f k c n = some (row (find c n)) := by
  have := get_go c n hc c.length 0 (by omega) k (by omega)
  simpa [transposallaw06_get.f] using this
theorem way_go (c : List Acc) (hc : c.length ≤ 250) : ∀ (j : Nat) (n : Int) (o : List Int), o.length + j = 13 → ∀ k, 300 + j < k → transposallaw06_Way.l0 k c n o = some (o ++ way c j n)
  | 0, n, o, h, 0, hk => by omega
  | 0, n, o, h, k + 1, hk => by
    simp only [transposallaw06_Way.l0]
    rw [if_neg (by omega)]
    simp [way]
  | j + 1, n, o, h, 0, hk => by omega
  | j + 1, n, o, h, k + 1, hk => by
    simp only [transposallaw06_Way.l0]
    rw [if_pos (by omega), get_eq n hc k (by omega)]
    rw [way]
    cases hf : find c n with
    | none => simp [row]
    | some a =>
      simp only [row, Option.bind_some, if_true]
      rw [if_pos (by omega), way_go c hc j a.f3 (o ++ [n]) (by simp; omega) k (by omega)]
      simp
theorem lawway_eq {c : List Acc} (n : Int) (hc : c.length ≤ 250) (k : Nat) (hk : 400 ≤ k) : transposallaw06_Way.f k c n = some (way c 13 n) := by
  have := way_go c hc 13 n [] rfl k (by omega)
  simpa [transposallaw06_Way.f] using this
theorem deep_eq {c : List Acc} (n : Int) (hc : c.length ≤ 250) (k : Nat) (hk : 400 ≤ k) : transposallaw06_deep.f k c n = some ((way c 13 n).length : Int) := by
  unfold transposallaw06_deep.f
  rw [lawway_eq n hc k hk]
  rfl
/-! ### by halves -/
theorem cmp_eq (a0 : Int) (a1 : ByteArray) (a2 a3 n : Int) : chart_Chart_Find_1.f a0 a1 a2 a3 n = some (if a0 < n then -1 else if a0 = n then 0 else 1) := by
  unfold chart_Chart_Find_1.f
  repeat' split
  all_goals first
    | rfl
    | (exfalso; omega)
/-- A place in a chart: ahead of it the codes below n, from it on the others. -/
def At (c : List Acc) (n : Int) (i : Nat) : Prop := i ≤ c.length ∧ (∀ (j : Nat) (h : j < c.length), j < i → c[j].f0 < n) ∧ (∀ (j : Nat) (h : j < c.length), i ≤ j → n ≤ c[j].f0)
def hit (c : List Acc) (n : Int) (i : Nat) : Bool := match c[i]? with | none => false | some a => a.f0 == n
theorem sorted_lt {c : List Acc} (S : Sorted c) {i j : Nat} (hj : j < c.length) (h : i < j) : (c[i]'(by omega)).f0 < c[j].f0 := List.pairwise_iff_getElem.1 S i j (by omega) hj h
theorem half_go {c : List Acc} (S : Sorted c) (n : Int) (hc : c.length ≤ 250) : ∀ (d lo hi : Nat), hi - lo ≤ d → lo ≤ hi → hi ≤ c.length → (∀ (j : Nat) (h : j < c.length), j < lo → c[j].f0 < n) → (∀ (j : Nat) (h : j < c.length), hi ≤ j → n ≤ c[j].f0) →
    ∃ i : Nat, At c n i ∧ ∀ k, d < k → chart_Account_uint32.l0 k c n (c.length : Int) (lo : Int) (hi : Int) = some ((i : Int), hit c n i) := by
  intro d
  induction d with
  | zero =>
    intro lo hi h1 h2 h3 hlo hhi
    obtain rfl : lo = hi := by omega
    refine ⟨lo, ⟨h3, hlo, hhi⟩, fun k hk => ?_⟩
    cases k with
    | zero => omega
    | succ k =>
      simp only [chart_Account_uint32.l0]
      rw [if_neg (by omega)]
      by_cases h : lo < c.length
      · rw [if_pos (by omega), if_pos (by omega), if_pos (by omega)]
        have e := rdA_get h
        unfold rdA at e
        rw [e, cmp_eq]
        unfold hit
        rw [List.getElem?_eq_getElem h]
        have := hhi lo h (Nat.le_refl _)
        simp only [Option.bind_some]
        rw [if_neg (by omega)]
        by_cases he : c[lo].f0 = n
        · simp [he]
        · simp [he]
      · rw [if_neg (by omega)]
        unfold hit
        rw [List.getElem?_eq_none (by omega)]
  | succ d ih =>
    intro lo hi h1 h2 h3 hlo hhi
    by_cases hlt : lo < hi
    · obtain ⟨m, hm, hm2⟩ : ∃ m : Nat, m = (lo + hi) / 2 ∧ lo ≤ m := ⟨_, rfl, by omega⟩
      have hmc : m < c.length := by omega
      have hw : wrap64 ((IntKind.u64.wrap (wrap64 ((lo : Int) + (hi : Int)))) / 2) = (m : Int) := by
        rw [w64 (x := (lo : Int) + hi) (by omega) (by omega)]
        have : IntKind.u64.wrap ((lo : Int) + (hi : Int)) = (lo : Int) + hi := by
          show ((lo : Int) + (hi : Int)) % 18446744073709551616 = _
          omega
        rw [this, w64 (by omega) (by omega)]
        omega
      have e := rdA_get hmc
      unfold rdA at e
      by_cases hcmp : c[m].f0 < n
      · obtain ⟨i, hA, hi'⟩ := ih (m + 1) hi (by omega) (by omega) h3 (fun j hj hjm => by
          rcases Nat.lt_or_ge j m with h | h
          · have := sorted_lt S hmc h
            omega
          · obtain rfl : j = m := by omega
            exact hcmp) hhi
        refine ⟨i, hA, fun k hk => ?_⟩
        cases k with
        | zero => omega
        | succ k =>
          simp only [chart_Account_uint32.l0]
          rw [if_pos (by omega), hw, if_pos (by omega), if_pos (by omega), e, cmp_eq, if_pos hcmp]
          simp only [Option.bind_some]
          rw [if_pos (by omega), w64 (by omega) (by omega)]
          exact hi' k (by omega)
      · obtain ⟨i, hA, hi'⟩ := ih lo m (by omega) (by omega) (by omega) hlo (fun j hj hjm => by
          rcases Nat.lt_or_ge m j with h | h
          · have := sorted_lt S hj h
            omega
          · obtain rfl : j = m := by omega
            omega)
        refine ⟨i, hA, fun k hk => ?_⟩
        cases k with
        | zero => omega
        | succ k =>
          simp only [chart_Account_uint32.l0]
          rw [if_pos (by omega), hw, if_pos (by omega), if_pos (by omega), e, cmp_eq, if_neg hcmp]
          simp only [Option.bind_some]
          rw [if_neg (by split <;> omega)]
          exact hi' k (by omega)
    · obtain ⟨i, hA, hi'⟩ := ih lo hi (by omega) h2 h3 hlo hhi
      exact ⟨i, hA, fun k hk => hi' k (by omega)⟩
theorem bin_eq {c : List Acc} (S : Sorted c) (n : Int) (hc : c.length ≤ 250) : ∃ i : Nat, At c n i ∧ ∀ k, 300 ≤ k → chart_Chart_Find.f k c n = some ((i : Int), hit c n i) := by
  obtain ⟨i, hA, h⟩ := half_go S n hc c.length 0 c.length (by omega) (by omega) (Nat.le_refl _) (fun j _ h => by omega) (fun j h1 h2 => by omega)
  refine ⟨i, hA, fun k hk => ?_⟩
  unfold chart_Chart_Find.f chart_Account_uint32.f
  have := h k (by omega)
  rw [show ((0 : Nat) : Int) = 0 from rfl] at this
  rw [this]
  rfl
theorem hit_find {c : List Acc} (S : Sorted c) {n : Int} {i : Nat} (hA : At c n i) : (hit c n i = true → ∃ h : i < c.length, find c n = some c[i]) ∧ (hit c n i = false → find c n = none) := by
  obtain ⟨h1, h2, h3⟩ := hA
  unfold hit
  constructor
  · intro h
    by_cases hi : i < c.length
    · rw [List.getElem?_eq_getElem hi] at h
      simp at h
      exact ⟨hi, by rw [← h]; exact find_of_mem S (List.getElem_mem hi)⟩
    · rw [List.getElem?_eq_none (by omega)] at h
      simp at h
  · intro h
    cases hf : find c n with
    | none => rfl
    | some a =>
      obtain ⟨ha, e⟩ := find_mem hf
      obtain ⟨j, hj, rfl⟩ := List.getElem_of_mem ha
      have hji : ¬ j < i := fun hlt => by have := h2 j hj hlt; omega
      rcases Nat.lt_or_ge i j with hlt | hge
      · have a1 := sorted_lt S hj hlt
        have a2 := h3 i (by omega) (Nat.le_refl _)
        omega
      · obtain rfl : i = j := by omega
        rw [List.getElem?_eq_getElem hj] at h
        simp [e] at h
theorem Get_eq {c : List Acc} (S : Sorted c) (n : Int) (hc : c.length ≤ 250) (k : Nat) (hk : 300 ≤ k) : chart_Chart_Get.f k c n = some (row (find c n)) := by
  obtain ⟨i, hA, h⟩ := bin_eq S n hc
  obtain ⟨f1, f2⟩ := hit_find S hA
  unfold chart_Chart_Get.f
  rw [h k hk]
  simp only [Option.bind_some]
  cases hh : hit c n i with
  | true =>
    obtain ⟨hi, e⟩ := f1 hh
    have er := rdA_get hi
    unfold rdA at er
    rw [if_pos rfl, if_pos (by omega), if_pos (by omega), er, e]
    rfl
  | false =>
    rw [if_neg (by simp), f2 hh]
    rfl
end Go.Proofs.YtddaogebacigbaaGreatDoor.PChart
