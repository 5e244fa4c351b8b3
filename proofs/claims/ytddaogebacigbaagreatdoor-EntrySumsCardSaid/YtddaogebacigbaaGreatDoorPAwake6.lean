/- The laws' own wakefulness, up to 06. -/
import Derived.Test.YtddaogebacigbaaGreatDoorXA10
import Derived.Test.YtddaogebacigbaaGreatDoorXA6
import Derived.Test.YtddaogebacigbaaGreatDoorPDayB
import Derived.Test.YtddaogebacigbaaGreatDoorPChartA
namespace Go.Proofs.YtddaogebacigbaaGreatDoor.PChart
open Go.RowKit Go.Proofs.YtddaogebacigbaaGreatDoorW.PrintWords Go.Proofs.YtddaogebacigbaaGreatDoorW.PrintLast Go.Proofs.YtddaogebacigbaaGreatDoor.XA Go.Proofs.YtddaogebacigbaaGreatDoor.ChartMath
set_option linter.unusedVariables false
set_option linter.unusedSimpArgs false
theorem awake5 (k : Nat) (hk : 25000 ≤ k) : transposallaw05_Awake.f k = some true := by
  unfold transposallaw05_Awake.f
  rw [show key_Key_Pack.f 1 2 3 = some 4295098371 by decide +kernel]
  simp only [Option.bind_some, if_true]
  rw [PDay.awake k hk]
  rfl
theorem equal_go (a b : List Int) (hl : a.length = b.length) (hb : a.length ≤ 100) : ∀ (d i : Nat), d + i = a.length → ∀ k, d < k → slices_Equal_uint32_uint32.l0 k a b (a.length : Int) (i : Int) = some (decide (a.drop i = b.drop i))
  | d, i, h, 0, hk => by omega
  | 0, i, h, k + 1, hk => by
    simp only [slices_Equal_uint32_uint32.l0]
    rw [if_neg (by omega), List.drop_eq_nil_of_le (by omega), List.drop_eq_nil_of_le (by omega)]
    simp
  | d + 1, i, h, k + 1, hk => by
    have h1 : i < a.length := by omega
    have h2 : i < b.length := by omega
    simp only [slices_Equal_uint32_uint32.l0]
    rw [if_pos (by omega), if_pos (by omega), if_pos (by omega), if_pos (by omega), rd_get h1, rd_get h2, List.drop_eq_getElem_cons h1, List.drop_eq_getElem_cons h2]
    by_cases e : a[i] = b[i]
    · rw [if_pos e, w64 (by omega) (by omega)]
      have := equal_go a b hl hb d (i + 1) (by omega) k (by omega)
      rw [show ((i : Int) + 1) = ((i + 1 : Nat) : Int) by omega, this]
      simp only [List.cons.injEq, e, true_and]
    · rw [if_neg e]
      simp only [List.cons.injEq, e, false_and, decide_false]
theorem equal_eq (a b : List Int) (hb : a.length ≤ 100) (k : Nat) (hk : 200 ≤ k) : slices_Equal_uint32_uint32.f k a b = some (decide (a = b)) := by
  unfold slices_Equal_uint32_uint32.f
  by_cases hl : a.length = b.length
  · rw [if_pos (by omega)]
    have := equal_go a b hl hb a.length 0 (by omega) k (by omega)
    rw [show ((0 : Nat) : Int) = 0 from rfl] at this
    rw [this]
    simp
  · rw [if_neg (by omega)]
    have : ¬ a = b := fun e => hl (by rw [e])
    simp [this]
theorem awake6 (k : Nat) (hk : 25000 ≤ k) : transposallaw06_Awake.f k = some true := by
  obtain ⟨j, rfl⟩ : ∃ j, k = j + 4 := ⟨k - 4, by omega⟩
  unfold transposallaw06_Awake.f
  rw [Way_eq (by unfold Sorted; simp) 2 (by simp) (j + 4) (by omega)]
  rw [show way ([(⟨1, (⟨#[97]⟩ : ByteArray), 0, 0⟩ : Acc), (⟨2, (⟨#[98]⟩ : ByteArray), 0, 1⟩ : Acc)]) 13 2 = [2, 1] from rfl]
  simp only [Option.bind_some]
  rw [equal_eq _ _ (by simp) (j + 4) (by omega), show decide (([2, 1] : List Int) = [2, 1]) = true from rfl]
  simp only [Option.bind_some, if_true]
  rw [show chart_Kind_Credit.f 3 = some true from rfl, show chart_Kind_Flow.f 0 = some false from rfl]
  simp only [Option.bind_some, if_true]
  rw [if_neg (by simp), awake5 (j + 4) (by omega)]
  rfl
end Go.Proofs.YtddaogebacigbaaGreatDoor.PChart
