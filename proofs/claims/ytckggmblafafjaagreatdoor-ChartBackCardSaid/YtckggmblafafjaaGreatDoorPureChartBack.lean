/- ChartBack, as its pure statement. No conditions. -/
import Derived.Test.YtckggmblafafjaaGreatDoorXA13
import Derived.Test.YtckggmblafafjaaGreatDoorPAwake6
import Derived.Test.YtckggmblafafjaaGreatDoorPTurn
namespace Go.Proofs.YtckggmblafafjaaGreatDoor.Pure
open Go.RowKit Go.Proofs.YtckggmblafafjaaGreatDoorW.PrintWords Go.Proofs.YtckggmblafafjaaGreatDoorW.PrintLast Go.Proofs.YtckggmblafafjaaGreatDoor.XA Go.Proofs.YtckggmblafafjaaGreatDoor.ChartMath Go.Proofs.YtckggmblafafjaaGreatDoor.PChart
set_option linter.unusedVariables false
set_option linter.unusedSimpArgs false
theorem put_back : ∀ (c : List Acc) (a : Acc), Sorted c → a ∈ c → withA (c.filter (fun x => x.f0 != a.f0)) a = c
  | x :: t, a, S, ha => by
    unfold Sorted at S
    rw [List.pairwise_cons] at S
    rcases List.mem_cons.1 ha with rfl | ha
    · rw [List.filter_cons_of_neg (by simp), filter_all S.1]
      unfold withA
      cases t with
      | nil => simp
      | cons y t =>
        have := S.1 y (by simp)
        rw [List.takeWhile_cons_of_neg (by simp; omega), List.dropWhile_cons_of_neg (by simp; omega), filter_all S.1]
        rfl
    · have hlt := S.1 a ha
      have ih := put_back t a S.2 ha
      unfold withA at ih ⊢
      rw [List.filter_cons_of_pos (by simp; omega), List.takeWhile_cons_of_pos (p := fun x : Acc => decide (x.f0 < a.f0)) (decide_eq_true hlt), List.dropWhile_cons_of_pos (p := fun x : Acc => decide (x.f0 < a.f0)) (decide_eq_true hlt)]
      rw [List.cons_append, List.cons_append, ih]
theorem ChartBack : transposallaw06_ChartBack.Pure := by
  intro l0 a1 h1 h2 b1
  obtain ⟨c, M, hc⟩ := make_eq h1 h2
  have hl := M.len
  have c1 := u8_wf b1
  obtain ⟨K, hK⟩ : ∃ K : Nat, 60000 ≤ K := ⟨60000, Nat.le_refl _⟩
  refine ⟨K, ?_⟩
  have hM := hc K (by omega)
  unfold transposallaw06_ChartBack.f
  rw [awake6 K (by omega)]
  simp only [Option.bind_some, if_true]
  rw [hM]
  simp only [Option.bind_some]
  by_cases h0 : (c.length : Int) = 0
  · rw [if_pos h0]
  rw [if_neg h0]
  obtain ⟨q, hq, q1⟩ : ∃ q : Nat, (q : Int) = Int.tmod (wrap64 a1) (c.length : Int) ∧ q < c.length := by
    rw [PChart.w64 (by omega) (by omega), Int.tmod_eq_emod_of_nonneg c1.1]
    have z1 := Int.emod_nonneg a1 (show (c.length : Int) ≠ 0 by omega)
    have z2 := Int.emod_lt_of_pos a1 (show 0 < (c.length : Int) by omega)
    exact ⟨(a1 % (c.length : Int)).toNat, by omega, by omega⟩
  have er := rdA_get q1
  unfold rdA at er
  rw [← hq, er, if_pos (by omega), if_pos (by omega)]
  have hmem := List.getElem_mem q1
  obtain ⟨a, ha⟩ : ∃ a, a = c[q] := ⟨_, rfl⟩
  rw [← ha] at hmem ⊢
  clear ha er
  have hpar : ∀ x ∈ c, x.f3 ≠ 99999 := by
    intro x hx e
    rcases M.good.parent x hx with h | ⟨p, hp, e1, _, _⟩
    · omega
    · have := M.small p hp
      omega
  have hsm := M.small a hmem
  have m2 : (c.map (hung a.f0 99999)).map (hung 99999 a.f0) = c := by
    rw [List.map_map]
    conv => rhs; rw [← List.map_id c]
    apply List.map_congr_left
    intro x hx
    have := hpar x hx
    show hung 99999 a.f0 (hung a.f0 99999 x) = x
    by_cases h : x.f3 = a.f0
    · rw [show hung a.f0 99999 x = ⟨x.f0, x.f1, x.f2, 99999⟩ from if_pos h]
      unfold hung
      rw [if_pos rfl, ← h]
    · rw [show hung a.f0 99999 x = x from if_neg h]
      exact if_neg this
  have m3 : (c.map (hung a.f0 99999)).filter (fun x => x.f3 == a.f0) = [] := by
    rw [List.filter_eq_nil_iff]
    intro x hx
    obtain ⟨y, _, rfl⟩ := List.mem_map.1 hx
    unfold hung
    split
    · simp; omega
    · rename_i h
      simpa using h
  have m4 : ((c.map (hung a.f0 99999)).filter (fun x => x.f3 == 99999)).map (·.f0) = (c.filter (fun x => x.f3 == a.f0)).map (·.f0) := by
    clear m2 m3 hM hc h0 hq q1 hmem
    rw [List.filter_map, List.map_map]
    have e1 : c.filter ((fun x : Acc => x.f3 == 99999) ∘ hung a.f0 99999) = c.filter (fun x => x.f3 == a.f0) := by
      apply List.filter_congr
      intro x hx
      have := hpar x hx
      show ((hung a.f0 99999 x).f3 == 99999) = (x.f3 == a.f0)
      by_cases h : x.f3 = a.f0
      · rw [show hung a.f0 99999 x = ⟨x.f0, x.f1, x.f2, 99999⟩ from if_pos h, h]
        simp
      · rw [show hung a.f0 99999 x = x from if_neg h, beq_eq_false_iff_ne.2 this, beq_eq_false_iff_ne.2 h]
    rw [e1]
    apply List.map_congr_left
    intro x hx
    simp only [Function.comp, hung]
    split <;> rfl
  have hml : (c.map (hung a.f0 99999)).length = c.length := by simp
  have hfl : (c.filter (fun x => x.f0 != a.f0)).length ≤ c.length := List.length_filter_le _ _
  rw [Moved_eq c _ _ (by omega) K (by omega)]
  simp only [Option.bind_some]
  rw [Without_eq c _ (by omega) K (by omega)]
  simp only [Option.bind_some]
  rw [With_eq (M.good.sorted.filter _) a (by omega) K (by omega), put_back c a M.good.sorted hmem]
  simp only [Option.bind_some]
  rw [equalc_eq _ _ (by omega) K (by omega), decide_eq_true rfl]
  simp only [Option.bind_some, if_true]
  rw [Moved_eq _ _ _ (by omega) K (by omega), m2]
  simp only [Option.bind_some]
  rw [equalc_eq _ _ (by omega) K (by omega), decide_eq_true rfl]
  simp only [Option.bind_some, if_true]
  rw [Kids_eq _ _ (by omega) K (by omega), m3]
  simp only [Option.bind_some]
  rw [if_pos (by simp), Kids_eq _ _ (by omega) K (by omega), m4]
  simp only [Option.bind_some]
  rw [Kids_eq _ _ (by omega) K (by omega)]
  simp only [Option.bind_some]
  have hkl : ((c.filter (fun x => x.f3 == a.f0)).map (·.f0)).length ≤ c.length := by
    rw [List.length_map]
    exact List.length_filter_le _ _
  rw [equal_eq _ _ (by omega) K (by omega), decide_eq_true rfl]
  rfl
end Go.Proofs.YtckggmblafafjaaGreatDoor.Pure
