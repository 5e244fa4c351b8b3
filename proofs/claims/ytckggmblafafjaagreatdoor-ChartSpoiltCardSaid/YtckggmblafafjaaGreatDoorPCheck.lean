/- Both checks of a chart answer alike, whatever the chart (of at most a hundred accounts). -/
import Derived.Test.YtckggmblafafjaaGreatDoorXA14
import Derived.Test.YtckggmblafafjaaGreatDoorXA16
import Derived.Test.YtckggmblafafjaaGreatDoorPChartB
namespace Go.Proofs.YtckggmblafafjaaGreatDoor.PChart
open Go.RowKit Go.Proofs.YtckggmblafafjaaGreatDoorW.PrintWords Go.Proofs.YtckggmblafafjaaGreatDoorW.PrintLast Go.Proofs.YtckggmblafafjaaGreatDoor.XA Go.Proofs.YtckggmblafafjaaGreatDoor.ChartMath
set_option linter.unusedVariables false
set_option linter.unusedSimpArgs false
theorem code_eq (n : Int) : chart_Code.f n = some (decide (1 ≤ n) && decide (n ≤ 999999)) := by
  unfold chart_Code.f
  by_cases h : n ≥ 1
  · rw [if_pos h, decide_eq_true (show 1 ≤ n from h), Bool.true_and]
  · rw [if_neg h, decide_eq_false (show ¬ 1 ≤ n from h), Bool.false_and]
theorem check_l1 {c : List Acc} (S : Sorted c) (hc : c.length ≤ 250) : ∀ (d i : Nat), d + i = c.length → ∃ e, ∀ k, 500 + d < k →
    chart_Chart_Check.l1 k c c (c.length : Int) (i : Int) = some e ∧ transposallaw06_Check.l1 k c c (c.length : Int) (i : Int) = some e := by
  intro d
  induction d with
  | zero =>
    intro i h
    refine ⟨0, fun k hk => ?_⟩
    obtain ⟨k, rfl⟩ : ∃ k', k = k' + 1 := ⟨k - 1, by omega⟩
    simp only [chart_Chart_Check.l1, transposallaw06_Check.l1]
    rw [if_neg (by omega), if_neg (by omega)]
    exact ⟨rfl, rfl⟩
  | succ d ih =>
    intro i h
    have hi : i < c.length := by omega
    have e := rdA_get hi
    unfold rdA at e
    obtain ⟨r, hr⟩ := ih (i + 1) (by omega)
    have next : ∀ k, 500 + d < k → chart_Chart_Check.l1 k c c (c.length : Int) (wrap64 ((i : Int) + 1)) = some r ∧ transposallaw06_Check.l1 k c c (c.length : Int) (wrap64 ((i : Int) + 1)) = some r := by
      intro k hk
      rw [w64 (by omega) (by omega)]
      exact hr k hk
    have P1 : (i : Int) < (c.length : Int) := by omega
    have P2 : 0 ≤ (i : Int) := by omega
    by_cases h0 : c[i].f3 = 0
    · refine ⟨r, fun k hk => ?_⟩
      obtain ⟨k, rfl⟩ : ∃ k', k = k' + 1 := ⟨k - 1, by omega⟩
      simp only [chart_Chart_Check.l1, transposallaw06_Check.l1]
      simp only [P1, P2, if_true, e, h0]
      exact next k (by omega)
    · have both : ∀ k, 500 + d < k → chart_Chart_Check.l1 (k + 1) c c (c.length : Int) (i : Int) = (if (row (find c c[i].f3)).2.2.2.2 = true then (if (row (find c c[i].f3)).2.2.1 = c[i].f2 then (if ((way c 13 c[i].f0).length : Int) > 12 then some 11 else some r) else some 9) else some 8) ∧
          transposallaw06_Check.l1 (k + 1) c c (c.length : Int) (i : Int) = (if (row (find c c[i].f3)).2.2.2.2 = true then (if (row (find c c[i].f3)).2.2.1 = c[i].f2 then (if ((way c 13 c[i].f0).length : Int) > 12 then some 11 else some r) else some 9) else some 8) := by
        intro k hk
        obtain ⟨n1, n2⟩ := next k hk
        simp only [chart_Chart_Check.l1, transposallaw06_Check.l1]
        simp only [P1, P2, if_true, e, h0, if_false, Get_eq S _ hc k (show 300 ≤ k by omega), get_eq _ hc k (show 300 ≤ k by omega), Option.bind_some]
        rw [Way_eq S _ hc k (by omega), deep_eq _ hc k (by omega), n1, n2]
        exact ⟨rfl, rfl⟩
      obtain ⟨e', he'⟩ : ∃ e', (if (row (find c c[i].f3)).2.2.2.2 = true then (if (row (find c c[i].f3)).2.2.1 = c[i].f2 then (if ((way c 13 c[i].f0).length : Int) > 12 then some 11 else some r) else some 9) else some 8) = some e' := by
        split
        · split
          · split
            · exact ⟨_, rfl⟩
            · exact ⟨_, rfl⟩
          · exact ⟨_, rfl⟩
        · exact ⟨_, rfl⟩
      refine ⟨e', fun k hk => ?_⟩
      obtain ⟨k, rfl⟩ : ∃ k', k = k' + 1 := ⟨k - 1, by omega⟩
      obtain ⟨b1, b2⟩ := both k (by omega)
      rw [b1, b2]
      exact ⟨he', he'⟩
theorem check_l0 {c : List Acc} (hc : c.length ≤ 250) (hn : ∀ a ∈ c, 0 ≤ a.f0) (hs : ∀ a ∈ c, a.f1.size ≤ 140737488351232) : ∀ (d i : Nat), d + i = c.length → Sorted (c.take i) → ∀ last : Int, (∀ (h : 0 < i) (h2 : i - 1 < c.length), last = (c[i - 1]'h2).f0) → ∃ e, ∀ k, 800 + 4 * d < k →
    chart_Chart_Check.l0 k c c (c.length : Int) (i : Int) = some e ∧ transposallaw06_Check.l0 k c last c (c.length : Int) (i : Int) = some e := by
  intro d
  induction d with
  | zero =>
    intro i h S last hl
    rw [List.take_of_length_le (by omega)] at S
    obtain ⟨r, hr⟩ := check_l1 S hc c.length 0 (by omega)
    rw [show ((0 : Nat) : Int) = 0 from rfl] at hr
    refine ⟨r, fun k hk => ?_⟩
    obtain ⟨k, rfl⟩ : ∃ k', k = k' + 1 := ⟨k - 1, by omega⟩
    simp only [chart_Chart_Check.l0, transposallaw06_Check.l0]
    rw [if_neg (by omega), if_neg (by omega)]
    exact hr k (by omega)
  | succ d ih =>
    intro i h S last hl
    have hi : i < c.length := by omega
    have e := rdA_get hi
    unfold rdA at e
    have ha := List.getElem_mem hi
    have n0 := hn _ ha
    have s0 := hs _ ha
    have hN : chart_Name.f c[i].f1 = some (okName c[i].f1.data.toList) := rfl
    have hM : transposallaw06_name.f c[i].f1 = some (okName c[i].f1.data.toList) := by
      unfold transposallaw06_name.f
      rw [if_pos s0]
    -- what the rest of a round comes to, in both
    by_cases hcode : 1 ≤ c[i].f0 ∧ c[i].f0 ≤ 999999
    · have dc : (decide (1 ≤ c[i].f0) && decide (c[i].f0 ≤ 999999)) = true := by simp [hcode.1, hcode.2]
      have dl : decide (c[i].f0 > 999999) = false := decide_eq_false (by omega)
      have hpi : 0 < i → ∃ h2 : i - 1 < c.length, rd_T26 c (wrap64 ((i : Int) - 1)) = c[i - 1]'h2 := by
        intro hp
        refine ⟨by omega, ?_⟩
        rw [w64 (by omega) (by omega), show (i : Int) - 1 = ((i - 1 : Nat) : Int) by omega]
        exact rdA_get (by omega)
      -- the order's guard is the same in both
      obtain ⟨g, hg, hg0⟩ : ∃ g : Bool, (∀ (hp : 0 < i) (h2 : i - 1 < c.length), g = decide ((c[i - 1]'h2).f0 ≥ c[i].f0)) ∧ (¬ 0 < i → g = false) := by
        by_cases hp : 0 < i
        · exact ⟨decide ((c[i - 1]'(by omega)).f0 ≥ c[i].f0), fun _ _ => rfl, fun h => absurd hp h⟩
        · exact ⟨false, fun h => absurd h hp, fun _ => rfl⟩
      have unf : ∀ k, chart_Chart_Check.l0 (k + 2) c c (c.length : Int) (i : Int) = (if g = true then some 6 else (if okName c[i].f1.data.toList = true then (if c[i].f2 ≥ 5 then some 9 else chart_Chart_Check.l0 k c c (c.length : Int) (wrap64 ((i : Int) + 1))) else some 10)) := by
        intro k
        simp only [chart_Chart_Check.l0]
        rw [if_pos (by omega), if_pos (by omega), if_pos (by omega), e, code_eq, dc]
        simp only [Option.bind_some, if_true]
        by_cases hp : 0 < i
        · obtain ⟨h2, e2⟩ := hpi hp
          rw [if_pos (by omega), if_pos (by rw [w64 (by omega) (by omega)]; omega), if_pos (by rw [w64 (by omega) (by omega)]; omega), e2, ← hg hp h2]
          simp only [chart_Chart_Check.j1]
          rw [hN]
          rfl
        · rw [if_neg (by omega), hg0 hp]
          simp only [chart_Chart_Check.j1]
          rw [hN]
          rfl
      have unl : ∀ k, transposallaw06_Check.l0 (k + 3) c last c (c.length : Int) (i : Int) = (if g = true then some 6 else (if okName c[i].f1.data.toList = true then (if c[i].f2 ≥ 5 then some 9 else transposallaw06_Check.l0 k c c[i].f0 c (c.length : Int) (wrap64 ((i : Int) + 1))) else some 10)) := by
        intro k
        simp only [transposallaw06_Check.l0]
        rw [if_pos (by omega), if_pos (by omega), if_pos (by omega), e, if_neg (by omega), dl]
        simp only [transposallaw06_Check.j1]
        rw [if_neg (by simp)]
        have hk9 : (c[i].f2 > 4) = (c[i].f2 ≥ 5) := by apply propext; omega
        by_cases hp : 0 < i
        · have h2 : i - 1 < c.length := by omega
          have hgl : decide (c[i].f0 ≤ last) = g := by
            rw [hg hp h2, hl hp h2]
          rw [if_pos (by omega), hgl]
          simp only [transposallaw06_Check.j2]
          rw [hM]
          simp only [Option.bind_some, hk9]
        · rw [if_neg (by omega), hg0 hp]
          simp only [transposallaw06_Check.j2]
          rw [hM]
          simp only [Option.bind_some, hk9]
      by_cases q1 : g = true
      · refine ⟨6, fun k hk => ?_⟩
        obtain ⟨k, rfl⟩ : ∃ k', k = k' + 3 := ⟨k - 3, by omega⟩
        rw [unf (k + 1), unl k, if_pos q1]
        exact ⟨rfl, if_pos q1⟩
      by_cases q2 : okName c[i].f1.data.toList = true
      · by_cases q3 : c[i].f2 ≥ 5
        · refine ⟨9, fun k hk => ?_⟩
          obtain ⟨k, rfl⟩ : ∃ k', k = k' + 3 := ⟨k - 3, by omega⟩
          rw [unf (k + 1), unl k, if_neg q1, if_pos q2, if_pos q3, if_neg q1, if_pos q2, if_pos q3]
          exact ⟨rfl, rfl⟩
        · have S' : Sorted (c.take (i + 1)) := by
            rw [List.take_succ_eq_append_getElem hi]
            unfold Sorted
            rw [List.pairwise_append]
            refine ⟨S, List.pairwise_singleton _ _, fun a ha' b hb' => ?_⟩
            rw [List.mem_singleton.1 hb']
            obtain ⟨j, hj, rfl⟩ := List.getElem_of_mem ha'
            have hj' : j < i := by simpa [Nat.min_eq_left (Nat.le_of_lt hi)] using hj
            have hp : 0 < i := by omega
            have h2 : i - 1 < c.length := by omega
            have lt : (c[i - 1]'h2).f0 < c[i].f0 := by
              have := hg hp h2
              rcases Int.lt_or_le (c[i - 1]'h2).f0 c[i].f0 with h | h
              · exact h
              · exact absurd (by rw [this]; exact decide_eq_true h) q1
            rw [List.getElem_take]
            rcases Nat.lt_or_ge j (i - 1) with h5 | h5
            · have := List.pairwise_iff_getElem.1 S j (i - 1) (by simp; omega) (by simp; omega) h5
              rw [List.getElem_take, List.getElem_take] at this
              omega
            · obtain rfl : j = i - 1 := by omega
              exact lt
          obtain ⟨r, hr⟩ := ih (i + 1) (by omega) S' c[i].f0 (fun _ _ => by simp)
          refine ⟨r, fun k hk => ?_⟩
          obtain ⟨k, rfl⟩ : ∃ k', k = k' + 3 := ⟨k - 3, by omega⟩
          rw [unf (k + 1), unl k, if_neg q1, if_pos q2, if_neg q3, if_neg q1, if_pos q2, if_neg q3, w64 (by omega) (by omega), show ((i : Int) + 1) = ((i + 1 : Nat) : Int) by omega]
          exact ⟨(hr (k + 1) (by omega)).1, (hr k (by omega)).2⟩
      · refine ⟨10, fun k hk => ?_⟩
        obtain ⟨k, rfl⟩ : ∃ k', k = k' + 3 := ⟨k - 3, by omega⟩
        rw [unf (k + 1), unl k, if_neg q1, if_neg q2, if_neg q1, if_neg q2]
        exact ⟨rfl, rfl⟩
    · refine ⟨5, fun k hk => ?_⟩
      obtain ⟨k, rfl⟩ : ∃ k', k = k' + 2 := ⟨k - 2, by omega⟩
      have dc : (decide (1 ≤ c[i].f0) && decide (c[i].f0 ≤ 999999)) = false := by
        by_cases h1 : 1 ≤ c[i].f0
        · have h2 : ¬ c[i].f0 ≤ 999999 := fun h => hcode ⟨h1, h⟩
          simp [h2]
        · simp [h1]
      constructor
      · simp only [chart_Chart_Check.l0]
        rw [if_pos (by omega), if_pos (by omega), if_pos (by omega), e, code_eq, dc]
        simp only [Option.bind_some]
        rw [if_neg (by simp)]
      · simp only [transposallaw06_Check.l0]
        rw [if_pos (by omega), if_pos (by omega), if_pos (by omega), e]
        by_cases h1 : c[i].f0 = 0
        · rw [if_pos h1]
          simp only [transposallaw06_Check.j1]
          rw [if_pos trivial]
        · rw [if_neg h1, decide_eq_true (show c[i].f0 > 999999 by omega)]
          simp only [transposallaw06_Check.j1]
          rw [if_pos trivial]
theorem check_eq {c : List Acc} (hc : c.length ≤ 250) (hn : ∀ a ∈ c, 0 ≤ a.f0) (hs : ∀ a ∈ c, a.f1.size ≤ 140737488351232) : ∃ e, ∀ k, 2000 ≤ k → chart_Chart_Check.f k c = some e ∧ transposallaw06_Check.f k c = some e := by
  obtain ⟨e, he⟩ := check_l0 hc hn hs c.length 0 (by omega) (by simp [Sorted]) 0 (fun h => by omega)
  rw [show ((0 : Nat) : Int) = 0 from rfl] at he
  by_cases h2 : c.length ≤ 200
  · refine ⟨e, fun k hk => ?_⟩
    unfold chart_Chart_Check.f transposallaw06_Check.f
    rw [if_neg (by omega), if_neg (by omega)]
    exact he k (by omega)
  · refine ⟨2, fun k hk => ?_⟩
    unfold chart_Chart_Check.f transposallaw06_Check.f
    rw [if_pos (by omega), if_pos (by omega)]
    exact ⟨rfl, rfl⟩
/-! ### charts that may be -/
structure Fine (c : List Acc) : Prop where
  len : c.length ≤ 200
  sorted : Sorted c
  code : ∀ a ∈ c, 1 ≤ a.f0 ∧ a.f0 ≤ 999999
  name : ∀ a ∈ c, okName a.f1.data.toList = true
  kind : ∀ a ∈ c, a.f2 < 5
  up : ∀ a ∈ c, a.f3 ≠ 0 → ∃ p, find c a.f3 = some p ∧ p.f2 = a.f2 ∧ (way c 13 a.f0).length ≤ 12
theorem fine_l1 {c : List Acc} (F : Fine c) : ∀ (d i : Nat), d + i = c.length → ∀ k, 500 + d < k → chart_Chart_Check.l1 k c c (c.length : Int) (i : Int) = some 0
  | 0, i, h, k, hk => by
    obtain ⟨k, rfl⟩ : ∃ k', k = k' + 1 := ⟨k - 1, by omega⟩
    simp only [chart_Chart_Check.l1]
    rw [if_neg (by omega)]
  | d + 1, i, h, k, hk => by
    have hl := F.len
    have hi : i < c.length := by omega
    have e := rdA_get hi
    unfold rdA at e
    obtain ⟨k, rfl⟩ : ∃ k', k = k' + 1 := ⟨k - 1, by omega⟩
    have ih := fine_l1 F d (i + 1) (by omega) k (by omega)
    rw [show ((i + 1 : Nat) : Int) = (i : Int) + 1 by omega] at ih
    simp only [chart_Chart_Check.l1]
    rw [if_pos (by omega), if_pos (by omega), if_pos (by omega), e, w64 (by omega) (by omega), ih]
    by_cases h0 : c[i].f3 = 0
    · rw [if_pos h0]
    · obtain ⟨p, hp, hk2, hw⟩ := F.up _ (List.getElem_mem hi) h0
      rw [if_neg h0, Get_eq F.sorted _ (by omega) k (by omega), hp]
      simp only [row, Option.bind_some, if_true]
      rw [if_pos hk2, Way_eq F.sorted _ (by omega) k (by omega)]
      simp only [Option.bind_some]
      rw [if_neg (by omega)]
theorem fine_l0 {c : List Acc} (F : Fine c) : ∀ (d i : Nat), d + i = c.length → ∀ k, 800 + 4 * d < k → chart_Chart_Check.l0 k c c (c.length : Int) (i : Int) = some 0
  | 0, i, h, k, hk => by
    have hl := F.len
    obtain ⟨k, rfl⟩ : ∃ k', k = k' + 1 := ⟨k - 1, by omega⟩
    simp only [chart_Chart_Check.l0]
    rw [if_neg (by omega)]
    exact fine_l1 F c.length 0 (by omega) k (by omega)
  | d + 1, i, h, k, hk => by
    have hl := F.len
    have hi : i < c.length := by omega
    have e := rdA_get hi
    unfold rdA at e
    have hm := List.getElem_mem hi
    obtain ⟨k, rfl⟩ : ∃ k', k = k' + 2 := ⟨k - 2, by omega⟩
    have ih := fine_l0 F d (i + 1) (by omega) k (by omega)
    rw [show ((i + 1 : Nat) : Int) = (i : Int) + 1 by omega] at ih
    obtain ⟨c1, c2⟩ := F.code _ hm
    have hk5 := F.kind _ hm
    have dc : (decide (1 ≤ c[i].f0) && decide (c[i].f0 ≤ 999999)) = true := by simp [c1, c2]
    have hN : chart_Name.f c[i].f1 = some true := by
      show some (okName c[i].f1.data.toList) = _
      rw [F.name _ hm]
    simp only [chart_Chart_Check.l0]
    rw [if_pos (by omega), if_pos (by omega), if_pos (by omega), e, code_eq, dc]
    simp only [Option.bind_some, if_true]
    have fin : chart_Chart_Check.j1 (k + 1) c c (c.length : Int) (i : Int) false c[i].f0 c[i].f1 c[i].f2 c[i].f3 = some 0 := by
      simp only [chart_Chart_Check.j1]
      rw [if_neg (by simp), hN]
      simp only [Option.bind_some, if_true]
      rw [if_neg (by omega), w64 (by omega) (by omega)]
      exact ih
    by_cases hp : 0 < i
    · have e2 := rdA_get (show i - 1 < c.length by omega)
      unfold rdA at e2
      have hlt := sorted_lt F.sorted hi (show i - 1 < i by omega)
      rw [if_pos (by omega), w64 (by omega) (by omega), if_pos (by omega), if_pos (by omega), show (i : Int) - 1 = ((i - 1 : Nat) : Int) by omega, e2, decide_eq_false (by omega)]
      exact fin
    · rw [if_neg (by omega)]
      exact fin
theorem fine_check {c : List Acc} (F : Fine c) (k : Nat) (hk : 2000 ≤ k) : chart_Chart_Check.f k c = some 0 := by
  have hl := F.len
  unfold chart_Chart_Check.f
  rw [if_neg (by omega)]
  exact fine_l0 F c.length 0 (by omega) k (by omega)
theorem nameOk_ok {b : ByteArray} (h : NameOk b) : okName b.data.toList = true := by
  obtain ⟨i, rfl⟩ := h
  match i with
  | 0 => decide
  | 1 => decide
  | 2 => decide
  | 3 => decide
  | 4 => decide
theorem Made.fine {c : List Acc} (M : Made c) : Fine c where
  len := by have := M.len; omega
  sorted := M.good.sorted
  code := fun a ha => ⟨M.good.pos a ha, by have := M.small a ha; omega⟩
  name := fun a ha => nameOk_ok (M.names a ha)
  kind := fun a ha => by have := M.kinds a ha; omega
  up := fun a ha h0 => by
    rcases M.good.parent a ha with h | ⟨p, hp, e, _, hk⟩
    · exact absurd h h0
    · exact ⟨p, by rw [← e]; exact find_of_mem M.good.sorted hp, hk, M.good.deep a ha⟩
theorem name_small {b : ByteArray} (h : NameOk b) : b.size ≤ 140737488351232 := by
  obtain ⟨i, rfl⟩ := h
  match i with
  | 0 => decide
  | 1 => decide
  | 2 => decide
  | 3 => decide
  | 4 => decide
end Go.Proofs.YtckggmblafafjaaGreatDoor.PChart
