/- UnitTurns, as its pure statement. No conditions. -/
import Derived.Test.YtfpfilmdlconhaaGreatDoorXA24
import Derived.Test.YtfpfilmdlconhaaGreatDoorPAwake7
import Derived.Test.YtfpfilmdlconhaaGreatDoorPSort
namespace Go.Proofs.YtfpfilmdlconhaaGreatDoor.Pure
open Go.RowKit Go.Proofs.YtfpfilmdlconhaaGreatDoorW.PrintWords Go.Proofs.YtfpfilmdlconhaaGreatDoorW.PrintLast Go.Proofs.YtfpfilmdlconhaaGreatDoor.XA Go.Proofs.YtfpfilmdlconhaaGreatDoor.PInts
set_option linter.unusedVariables false
set_option linter.unusedSimpArgs false
theorem turnsU_go {u : List Int} (S : SI u) (n : Int) (hl : u.length ≤ 9) : ∀ (d i : Nat) (o : List Int), d + i = u.length → o ++ (u.drop i).filter (fun x => x != n) = u.filter (fun x => x != n) → ∀ k, 2000 + d < k → transposallaw07_UnitTurns.l0 k n u u o u (u.length : Int) (i : Int) = some true
  | 0, i, o, h, ho, k, hk => by
    obtain ⟨k, rfl⟩ : ∃ k', k = k' + 1 := ⟨k - 1, by omega⟩
    rw [List.drop_eq_nil_of_le (by omega)] at ho
    simp only [List.filter_nil, List.append_nil] at ho
    subst ho
    have hfl : (u.filter (fun x => x != n)).length ≤ u.length := List.length_filter_le _ _
    have Sf : SI (u.filter (fun x => x != n)) := S.filter _
    have hmf : ∀ x, x ∈ u.filter (fun x => x != n) ↔ x ∈ u ∧ x ≠ n := fun x => by simp [List.mem_filter]
    obtain ⟨q, q1, q2, q3⟩ := Sort_eq (u.filter (fun x => x != n) ++ [n]) (by simp; omega)
    obtain ⟨w, w1, w2, _, w4, _, w3⟩ := With_eq S n (by omega)
    have hnd : (u.filter (fun x => x != n) ++ [n]).Nodup := by
      rw [List.nodup_append]
      refine ⟨Sf.nodup, by simp, fun a ha b hb => ?_⟩
      rw [List.mem_singleton.1 hb]
      exact ((hmf a).1 ha).2
    have Sq : SI q := SI.of q2 (q1.nodup_iff.2 hnd)
    have hwq : w = q := SI.ext w1 Sq (fun x => by
      rw [w2, q1.mem_iff, List.mem_append, hmf, List.mem_singleton]
      constructor
      · rintro (rfl | h)
        · exact .inr rfl
        · by_cases e : x = n
          · exact .inr e
          · exact .inl ⟨h, e⟩
      · rintro (h | rfl)
        · exact .inr h.1
        · exact .inl rfl)
    simp only [transposallaw07_UnitTurns.l0]
    rw [if_neg (by omega), show unit_Units_uint16_27.f (u.filter (fun x => x != n)) = some (u.filter (fun x => x != n)) from if_pos (by omega)]
    simp only [Option.bind_some]
    rw [if_pos (by omega), q3 k (by omega)]
    simp only [Option.bind_some]
    rw [hasU _ (by omega) k (by omega)]
    simp only [Option.bind_some]
    have hhas : (decide (n ∈ u) == decide (((u.filter (fun x => x != n)).length : Int) < (u.length : Int))) = true := by
      by_cases hn : n ∈ u
      · have : (u.filter (fun x => x != n)).length < u.length := by
          rcases Nat.lt_or_ge (u.filter (fun x => x != n)).length u.length with h | h
          · exact h
          · have := (List.length_filter_eq_length_iff.1 (Nat.le_antisymm hfl h)) n hn
            simp at this
        rw [decide_eq_true hn, decide_eq_true (by omega)]
        rfl
      · have : u.filter (fun x => x != n) = u := by
          rw [List.filter_eq_self]
          intro x hx
          simp
          rintro rfl
          exact hn hx
        rw [this, decide_eq_false hn, decide_eq_false (by omega)]
        rfl
    rw [if_pos hhas, WithoutU u n (by omega)]
    simp only [Option.bind_some]
    rw [eqU_eq _ _ (by omega) k (by omega), decide_eq_true rfl]
    simp only [Option.bind_some, if_true]
    rw [w3 k (by omega)]
    simp only [Option.bind_some]
    rw [eqU_eq _ _ (by omega) k (by omega), decide_eq_true hwq]
    simp only [Option.bind_some, if_true]
    rw [eqU_eq _ _ (by omega) k (by omega), decide_eq_true rfl]
    rfl
  | d + 1, i, o, h, ho, k, hk => by
    obtain ⟨k, rfl⟩ : ∃ k', k = k' + 1 := ⟨k - 1, by omega⟩
    have hi : i < u.length := by omega
    rw [List.drop_eq_getElem_cons hi] at ho
    simp only [transposallaw07_UnitTurns.l0]
    rw [if_pos (by omega), if_pos (by omega), if_pos (by omega), rd_get hi, w64 (by omega) (by omega), show (i : Int) + 1 = ((i + 1 : Nat) : Int) by omega]
    by_cases hn : u[i] = n
    · rw [List.filter_cons_of_neg (by simp [hn])] at ho
      rw [if_pos hn]
      exact turnsU_go S n hl d (i + 1) o (by omega) ho k (by omega)
    · rw [List.filter_cons_of_pos (by simp [hn])] at ho
      have hol := congrArg List.length ho
      have hfl : (u.filter (fun x => x != n)).length ≤ u.length := List.length_filter_le _ _
      simp only [List.length_append, List.length_cons] at hol
      rw [if_neg hn, if_pos (by omega)]
      exact turnsU_go S n hl d (i + 1) (o ++ [u[i]]) (by omega) (by rw [List.append_assoc]; exact ho) k (by omega)
theorem UnitTurns : transposallaw07_UnitTurns.Pure := by
  intro l0 a1 h1 _ h2 h3
  obtain ⟨r, r1, r2, r3, r4, r5⟩ := makeU_eq h1 h2
  obtain ⟨K, hK⟩ : ∃ K : Nat, 60000 + l0.length ≤ K := ⟨60000 + l0.length, Nat.le_refl _⟩
  refine ⟨K, ?_⟩
  unfold transposallaw07_UnitTurns.f
  rw [awake7 K (by omega)]
  simp only [Option.bind_some, if_true]
  rw [r5 K (by omega)]
  simp only [Option.bind_some]
  exact turnsU_go r1 _ r3 r.length 0 [] (by omega) rfl K (by omega)
end Go.Proofs.YtfpfilmdlconhaaGreatDoor.Pure
