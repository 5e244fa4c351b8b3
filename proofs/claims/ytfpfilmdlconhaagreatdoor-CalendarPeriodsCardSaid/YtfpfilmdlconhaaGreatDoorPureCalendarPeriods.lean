/- CalendarPeriods, as its pure statement. No conditions. -/
import Derived.Test.YtfpfilmdlconhaaGreatDoorXA14
import Derived.Test.YtfpfilmdlconhaaGreatDoorPAwake7
import Derived.Test.YtfpfilmdlconhaaGreatDoorPCal
namespace Go.Proofs.YtfpfilmdlconhaaGreatDoor.Pure
open Go.RowKit Go.Proofs.YtfpfilmdlconhaaGreatDoorW.PrintWords Go.Proofs.YtfpfilmdlconhaaGreatDoorW.PrintLast Go.Proofs.YtfpfilmdlconhaaGreatDoor.XA Go.Proofs.YtfpfilmdlconhaaGreatDoor.PInts Go.Proofs.YtfpfilmdlconhaaGreatDoor.PCal
set_option linter.unusedVariables false
set_option linter.unusedSimpArgs false
theorem periods_go {a : Int} {s : List Int} {e : Int} (M : MadeC a s e) (ha : -100000 ≤ a ∧ a ≤ 100000) (ds : List Int) (hd : ds.length ≤ 100) : ∀ (q i : Nat), q + i = ds.length → ∀ k, 26100 + q < k → transposallaw08_CalendarPeriods.l0 k ds (ds.length : Int) (i : Int) s e = some true
  | 0, i, h, k, hk => by
    obtain ⟨k, rfl⟩ : ∃ k', k = k' + 1 := ⟨k - 1, by omega⟩
    simp only [transposallaw08_CalendarPeriods.l0]
    rw [if_neg (by omega), M.check ha k (by omega)]
    rfl
  | q + 1, i, h, k, hk => by
    obtain ⟨k, rfl⟩ : ∃ k', k = k' + 1 := ⟨k - 1, by omega⟩
    have hl := M.len
    obtain ⟨c, A, hc⟩ := Period_eq M.si (by omega) (rd ds (i : Int))
    have ih := periods_go M ha ds hd q (i + 1) (by omega) k (by omega)
    simp only [transposallaw08_CalendarPeriods.l0]
    rw [if_pos (by omega), if_pos (by omega), if_pos (by omega), law_eq A (by omega) M.lt k (by omega), hc e k (by omega), w64 (by omega) (by omega), show (i : Int) + 1 = ((i + 1 : Nat) : Int) by omega, ih]
    simp only [Option.bind_some]
    unfold inPeriod
    by_cases h0 : c = 0 ∨ e ≤ rd ds (i : Int)
    · rw [if_pos h0, if_pos h0, if_neg (by decide), if_pos (by decide)]
    · rw [if_neg h0, if_neg h0]
      have h1 : decide ((c : Int) - 1 ≥ 0) = true := decide_eq_true (by omega)
      rw [h1, if_neg (by simp), if_pos (by show (c : Int) - 1 = mx ((c : Int) - 1) 0; unfold mx; rw [if_neg (by omega)])]
theorem CalendarPeriods : transposallaw08_CalendarPeriods.Pure := by
  intro a0 l1 a2 b0 h1 _ h2 b2
  obtain ⟨c1, c2⟩ := i16_wf b0
  obtain ⟨s, e, M, hM⟩ := makeC_eq (a := a0) (by omega) h1 h2
  have hl := M.len
  obtain ⟨K, hK⟩ : ∃ K : Nat, 60000 ≤ K := ⟨60000, Nat.le_refl _⟩
  refine ⟨K, ?_⟩
  unfold transposallaw08_CalendarPeriods.f
  rw [awake8 K (by omega) (awake7 K (by omega))]
  simp only [Option.bind_some, if_true]
  rw [hM K (by omega)]
  simp only [Option.bind_some]
  rw [if_pos (by omega)]
  exact periods_go M (by omega) _ (by simp) 6 0 (by simp) K (by omega)
end Go.Proofs.YtfpfilmdlconhaaGreatDoor.Pure
