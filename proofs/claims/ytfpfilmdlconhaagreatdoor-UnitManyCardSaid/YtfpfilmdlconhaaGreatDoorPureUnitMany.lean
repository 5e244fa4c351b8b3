/- UnitMany, as its pure statement. No conditions. -/
import Derived.Test.YtfpfilmdlconhaaGreatDoorXA19
import Derived.Test.YtfpfilmdlconhaaGreatDoorPAwake7
namespace Go.Proofs.YtfpfilmdlconhaaGreatDoor.Pure
open Go.RowKit Go.Proofs.YtfpfilmdlconhaaGreatDoorW.PrintWords Go.Proofs.YtfpfilmdlconhaaGreatDoorW.PrintLast Go.Proofs.YtfpfilmdlconhaaGreatDoor.XA Go.Proofs.YtfpfilmdlconhaaGreatDoor.PInts
set_option linter.unusedVariables false
set_option linter.unusedSimpArgs false
theorem many_go (m : Nat) (hm : m ≤ 45) (hm2 : 36 ≤ m) : ∀ (d i : Nat) (u : List Int), d + i = m → SI u → u.length = i → (∀ x, x ∈ u ↔ ∃ j : Nat, j < i ∧ x = 1 + 7 * (j : Int)) → ∀ k, 1100 + d < k → transposallaw07_UnitMany.l0 k u (m : Int) (i : Int) = some true
  | 0, i, u, h, S, hl, hx, k, hk => by
    obtain ⟨k, rfl⟩ : ∃ k', k = k' + 1 := ⟨k - 1, by omega⟩
    simp only [transposallaw07_UnitMany.l0]
    rw [if_neg (by omega)]
    by_cases h40 : (u.length : Int) > 40
    · rw [if_pos h40]
      unfold unit_Units_Check.f
      rw [if_pos h40]
      rfl
    · rw [if_neg h40, checkU_ok S (by omega) (fun x h => by
        obtain ⟨j, hj, rfl⟩ := (hx x).1 h
        omega) k (by omega)]
      simp only [Option.bind_some, if_true]
      rw [hasU _ (by omega) k (by omega), hasU _ (by omega) k (by omega)]
      have h1 : (1 : Int) ∈ u := (hx 1).2 ⟨0, by omega, by omega⟩
      have h2 : ¬ (2 : Int) ∈ u := fun h => by
        obtain ⟨j, hj, e⟩ := (hx 2).1 h
        omega
      simp [h1, h2]
  | d + 1, i, u, h, S, hl, hx, k, hk => by
    obtain ⟨k, rfl⟩ : ∃ k', k = k' + 1 := ⟨k - 1, by omega⟩
    have hw : IntKind.u16.wrap (wrap64 (1 + (wrap64 (7 * (i : Int))))) = 1 + 7 * (i : Int) := by
      rw [w64 (x := 7 * (i : Int)) (by omega) (by omega), w64 (by omega) (by omega)]
      show (1 + 7 * (i : Int)) % 65536 = _
      omega
    obtain ⟨r, r1, r2, _, _, r4, r3⟩ := With_eq S (1 + 7 * (i : Int)) (by omega)
    have hnot : ¬ (1 + 7 * (i : Int)) ∈ u := fun h => by
      obtain ⟨j, hj, e⟩ := (hx _).1 h
      omega
    simp only [transposallaw07_UnitMany.l0]
    rw [if_pos (by omega), hw, r3 k (by omega)]
    simp only [Option.bind_some]
    rw [w64 (by omega) (by omega), show (i : Int) + 1 = ((i + 1 : Nat) : Int) by omega]
    refine many_go m hm hm2 d (i + 1) r (by omega) r1 (by rw [r4 hnot, hl]) (fun x => ?_) k (by omega)
    rw [r2, hx]
    constructor
    · rintro (rfl | ⟨j, hj, rfl⟩)
      · exact ⟨i, by omega, rfl⟩
      · exact ⟨j, by omega, rfl⟩
    · rintro ⟨j, hj, rfl⟩
      by_cases e : j = i
      · exact .inl (by rw [e])
      · exact .inr ⟨j, by omega, rfl⟩
theorem u8_wf {x : Int} (h : (Lit.int .u8 x).wf = true) : 0 ≤ x ∧ x ≤ 255 := by
  simp [Lit.wf, show IntKind.u8.min = 0 from rfl, show IntKind.u8.max = 255 from rfl] at h
  exact h
theorem UnitMany : transposallaw07_UnitMany.Pure := by
  intro a0 b0
  obtain ⟨c1, c2⟩ := u8_wf b0
  obtain ⟨K, hK⟩ : ∃ K : Nat, 60000 ≤ K := ⟨60000, Nat.le_refl _⟩
  refine ⟨K, ?_⟩
  unfold transposallaw07_UnitMany.f
  rw [awake7 K (by omega)]
  simp only [Option.bind_some, if_true]
  rw [Int.tmod_eq_emod_of_nonneg c1, w64 (x := a0 % 10) (by omega) (by omega), w64 (by omega) (by omega)]
  obtain ⟨m, hm⟩ : ∃ m : Nat, (m : Int) = 36 + a0 % 10 := ⟨(36 + a0 % 10).toNat, by omega⟩
  rw [← hm]
  exact many_go m (by omega) (by omega) m 0 [] (by omega) List.Pairwise.nil rfl (fun x => ⟨fun h => (by cases h), fun ⟨j, hj, _⟩ => absurd hj (Nat.not_lt_zero _)⟩) K (by omega)
end Go.Proofs.YtfpfilmdlconhaaGreatDoor.Pure
