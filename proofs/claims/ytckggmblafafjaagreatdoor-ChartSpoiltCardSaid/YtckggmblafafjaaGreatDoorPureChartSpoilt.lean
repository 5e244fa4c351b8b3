/- ChartSpoilt, as its pure statement. No conditions. -/
import Derived.Test.YtckggmblafafjaaGreatDoorXA17
import Derived.Test.YtckggmblafafjaaGreatDoorPAwake6
import Derived.Test.YtckggmblafafjaaGreatDoorPCheck
namespace Go.Proofs.YtckggmblafafjaaGreatDoor.Pure
open Go.RowKit Go.Proofs.YtckggmblafafjaaGreatDoorW.PrintWords Go.Proofs.YtckggmblafafjaaGreatDoorW.PrintLast Go.Proofs.YtckggmblafafjaaGreatDoor.XA Go.Proofs.YtckggmblafafjaaGreatDoor.ChartMath Go.Proofs.YtckggmblafafjaaGreatDoor.PChart
set_option linter.unusedVariables false
set_option linter.unusedSimpArgs false
theorem spoilt_eq {c : List Acc} (M : Made c) (x : Acc) (j : Nat) (h0 : 0 ≤ x.f0) (hs : x.f1.size ≤ 140737488351232) : ∃ e, ∀ k, 2000 ≤ k → chart_Chart_Check.f k (c.set j x) = some e ∧ transposallaw06_Check.f k (c.set j x) = some e := by
  have hl := M.len
  refine check_eq (by simp; omega) (fun a ha => ?_) (fun a ha => ?_)
  · rcases List.mem_or_eq_of_mem_set ha with h | rfl
    · have := M.good.pos a h
      omega
    · exact h0
  · rcases List.mem_or_eq_of_mem_set ha with h | rfl
    · exact name_small (M.names a h)
    · exact hs
theorem ChartSpoilt : transposallaw06_ChartSpoilt.Pure := by
  intro l0 a1 a2 a3 a4 h1 h2 b1 b2 b3 b4
  obtain ⟨c, ⟨M, hm⟩, hc⟩ := make_len h1 h2
  have hl := M.len
  have c1 := u8_wf b1
  have c2 := u8_wf b2
  have c3 : 0 ≤ a3 := by
    simp [Lit.wf, show IntKind.u32.min = 0 from rfl, show IntKind.u32.max = 4294967295 from rfl] at b3
    exact b3.1
  obtain ⟨K, hK⟩ : ∃ K : Nat, 60000 ≤ K := ⟨60000, Nat.le_refl _⟩
  refine ⟨K + 1, ?_⟩
  have T : transposallaw06_ChartSpoilt.j0 (K + 1) l0 a1 a2 a3 a4 true = some true := by
    simp only [transposallaw06_ChartSpoilt.j0]
    rfl
  unfold transposallaw06_ChartSpoilt.f
  rw [awake6 (K + 1) (by omega)]
  simp only [Option.bind_some, if_true]
  by_cases e0 : (l0.length : Int) = 0
  · rw [if_pos e0, T]
  by_cases e1 : (l0.length : Int) > 40
  · rw [if_neg e0, if_pos e1, T]
  by_cases e2 : (a4.size : Int) > 60
  · rw [if_neg e0, if_neg e1, decide_eq_true e2, T]
  rw [if_neg e0, if_neg e1, decide_eq_false e2]
  simp only [transposallaw06_ChartSpoilt.j0]
  rw [if_neg (by simp), hc K (by omega)]
  simp only [Option.bind_some]
  have hp : 0 < c.length := by omega
  obtain ⟨q, hq, q1⟩ : ∃ q : Nat, (q : Int) = Int.tmod (wrap64 a1) (c.length : Int) ∧ q < c.length := by
    rw [PChart.w64 (by omega) (by omega), Int.tmod_eq_emod_of_nonneg c1.1]
    have z1 := Int.emod_nonneg a1 (show (c.length : Int) ≠ 0 by omega)
    have z2 := Int.emod_lt_of_pos a1 (show 0 < (c.length : Int) by omega)
    exact ⟨(a1 % (c.length : Int)).toNat, by omega, by omega⟩
  have er := rdA_get q1
  unfold rdA at er
  have hmem := List.getElem_mem q1
  have p0 := M.good.pos _ hmem
  have pn := name_small (M.names _ hmem)
  have go : ∀ x : Acc, 0 ≤ x.f0 → x.f1.size ≤ 140737488351232 → ((chart_Chart_Check.f K (c.set q x)).bind fun t463 => ((transposallaw06_Check.f K (c.set q x)).bind fun t464 => (some (t463 == t464)))) = some true := by
    intro x hx0 hxs
    obtain ⟨e, he⟩ := spoilt_eq M x q hx0 hxs
    rw [(he K (by omega)).1, (he K (by omega)).2]
    simp
  rw [if_neg (by omega), ← hq, Int.toNat_natCast, er]
  have P1 : 0 ≤ (q : Int) := by omega
  have P2 : (q : Int) < (c.length : Int) := by omega
  simp only [P1, P2, if_true]
  repeat' split
  all_goals exact go _ (by first | exact c3 | (show 0 ≤ c[q].f0; omega)) (by first | exact pn | (show a4.size ≤ _; omega))
end Go.Proofs.YtckggmblafafjaaGreatDoor.Pure
