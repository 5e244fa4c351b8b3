/- CalendarChecks, as its pure statement. No conditions. -/
import Derived.Test.YtfpfilmdlconhaaGreatDoorXA16
import Derived.Test.YtfpfilmdlconhaaGreatDoorPAwake7
import Derived.Test.YtfpfilmdlconhaaGreatDoorPCal
namespace Go.Proofs.YtfpfilmdlconhaaGreatDoor.Pure
open Go.RowKit Go.Proofs.YtfpfilmdlconhaaGreatDoorW.PrintWords Go.Proofs.YtfpfilmdlconhaaGreatDoorW.PrintLast Go.Proofs.YtfpfilmdlconhaaGreatDoor.XA Go.Proofs.YtfpfilmdlconhaaGreatDoor.PInts Go.Proofs.YtfpfilmdlconhaaGreatDoor.PCal
set_option linter.unusedVariables false
set_option linter.unusedSimpArgs false
def I32 (x : Int) : Prop := -2147483648 ≤ x ∧ x ≤ 2147483647
theorem j3_eq {l st : List Int} {e : Int} (h : st.length = l.length) (hl : l.length ≤ 70) (k : Nat) (hk : 30000 ≤ k) : transposallaw08_CalendarChecks.j3 k l (scanC (st ++ [e]) (st.length + 1) 0) st e = some true := by
  obtain ⟨k, rfl⟩ : ∃ k', k = k' + 2 := ⟨k - 2, by omega⟩
  simp only [transposallaw08_CalendarChecks.j3, transposallaw08_CalendarChecks.j4]
  have hc := checkC_eq st e (by omega) k (by omega)
  by_cases h1 : (l.length : Int) < 1
  · rw [if_pos h1, if_pos trivial, hc, if_pos (by omega)]
    simp only [Option.bind_some]
    rw [if_pos trivial]
    unfold calendar_Calendar_Len.f
    simp [h]
  · rw [if_neg h1]
    by_cases h2 : (l.length : Int) > 60
    · rw [decide_eq_true h2, if_pos rfl, hc, if_pos (by omega)]
      simp only [Option.bind_some]
      rw [if_pos trivial]
      unfold calendar_Calendar_Len.f
      simp [h]
    · rw [decide_eq_false h2, if_neg (by decide), hc, if_neg (by omega)]
      simp only [Option.bind_some]
      rw [if_pos trivial]
      unfold calendar_Calendar_Len.f
      simp [h]
theorem l1_go {l st : List Int} {e : Int} (h : st.length = l.length) (hl : l.length ≤ 70) (hb : ∀ x ∈ st ++ [e], I32 x) : ∀ (d i : Nat), d + i = st.length + 1 → scanC (st ++ [e]) d i = scanC (st ++ [e]) (st.length + 1) 0 → ∀ k, 40000 + 2 * d < k →
    transposallaw08_CalendarChecks.l1 k l 0 (st ++ [e]) (st ++ [e]) ((st ++ [e]).length : Int) (i : Int) st e = some true := by
  obtain ⟨u, hu⟩ : ∃ u, st ++ [e] = u := ⟨_, rfl⟩
  have hj := @j3_eq l st e h hl
  rw [hu] at hb hj ⊢
  have hlu : u.length = st.length + 1 := by rw [← hu]; simp
  intro d
  induction d with
  | zero =>
    intro i hd hs k hk
    obtain ⟨k, rfl⟩ : ∃ k', k = k' + 1 := ⟨k - 1, by omega⟩
    simp only [transposallaw08_CalendarChecks.l1]
    rw [if_neg (by omega)]
    rw [show (0 : Int) = scanC u 0 i from rfl, hs]
    exact hj k (by omega)
  | succ d ih =>
    intro i hd hs k hk
    obtain ⟨k, rfl⟩ : ∃ k', k = k' + 2 := ⟨k - 2, by omega⟩
    have hi : i < u.length := by omega
    obtain ⟨b1, b2⟩ := hb u[i] (List.getElem_mem hi)
    have n1 := PDay.number_eq (y := 1) (m := 1) (d := 1) (by omega) (by omega) (by omega) (by omega) (by omega) (by omega) (k + 1) (by omega)
    have n2 := PDay.number_eq (y := 9999) (m := 12) (d := 31) (by omega) (by omega) (by omega) (by omega) (by omega) (by omega) (k + 1) (by omega)
    rw [DayMath.num_first] at n1
    rw [DayMath.num_last] at n2
    rw [scanC] at hs
    simp only [transposallaw08_CalendarChecks.l1]
    rw [if_pos (by omega), if_pos (by omega), if_pos (by omega), n1, n2]
    simp only [Option.bind_some]
    rw [rd_get hi, w64 (x := u[i]) (by omega) (by omega)]
    rw [rd_get hi] at hs
    have bad : ¬ good u[i] → transposallaw08_CalendarChecks.j2 (k + 1) l 0 u (i : Int) u[i] u (u.length : Int) (i : Int) true st e = some true := by
      intro hg
      rw [if_neg hg] at hs
      simp only [transposallaw08_CalendarChecks.j2]
      rw [if_pos trivial, hs]
      exact hj k (by omega)
    by_cases h1 : u[i] < -719162
    · rw [if_pos h1]
      exact bad (by unfold good; omega)
    · rw [if_neg h1]
      by_cases h2 : u[i] > 2932896
      · rw [decide_eq_true h2]
        exact bad (by unfold good; omega)
      · rw [decide_eq_false h2]
        rw [if_pos (by unfold good; omega)] at hs
        simp only [transposallaw08_CalendarChecks.j2]
        rw [if_neg (by decide)]
        by_cases h3 : 0 < i
        · rw [if_pos (by omega), w64 (x := (i : Int) - 1) (by omega) (by omega), if_pos (by omega), if_pos (by omega)]
          by_cases h4 : rd u ((i : Int) - 1) ≥ u[i]
          · rw [if_pos ⟨h3, h4⟩] at hs
            rw [if_pos h4, hs]
            exact hj k (by omega)
          · rw [if_neg (fun h => h4 h.2)] at hs
            rw [if_neg h4, w64 (x := (i : Int) + 1) (by omega) (by omega)]
            exact ih (i + 1) (by omega) hs k (by omega)
        · rw [if_neg (fun h => h3 h.1)] at hs
          rw [if_neg (by omega), w64 (x := (i : Int) + 1) (by omega) (by omega)]
          exact ih (i + 1) (by omega) hs k (by omega)
theorem l0_go {l : List Int} {e : Int} {z : Bool} (hl : l.length ≤ 70) (hb : ∀ x ∈ l, I32 x) (he : I32 e) : ∀ (q i : Nat) (st : List Int) (o : Int), q + i = l.length → st.length = i → (∀ x ∈ st, I32 x) → ∀ k, 50000 + q < k → transposallaw08_CalendarChecks.l0 k l e z l (l.length : Int) (i : Int) st o = some true := by
  intro q
  induction q with
  | zero =>
    intro i st o hq hs hx k hk
    obtain ⟨k, rfl⟩ : ∃ k', k = k' + 1 := ⟨k - 1, by omega⟩
    simp only [transposallaw08_CalendarChecks.l0]
    rw [if_neg (by omega), show day_Day_19.f st = some st from if_pos (by omega)]
    simp only [Option.bind_some]
    rw [if_pos (by simp; omega)]
    refine l1_go (by omega) hl (fun x hm => ?_) (st.length + 1) 0 (by omega) rfl k (by omega)
    rcases List.mem_append.1 hm with h | h
    · exact hx x h
    · rw [List.mem_singleton.1 h]
      exact he
  | succ q ih =>
    intro i st o hq hs hx k hk
    obtain ⟨k, rfl⟩ : ∃ k', k = k' + 1 := ⟨k - 1, by omega⟩
    have hi : i < l.length := by omega
    obtain ⟨b1, b2⟩ := hb l[i] (List.getElem_mem hi)
    have step : ∀ y, I32 y → transposallaw08_CalendarChecks.l0 k l e z l (l.length : Int) ((i + 1 : Nat) : Int) (st ++ [y]) o = some true := by
      intro y hy
      refine ih (i + 1) (st ++ [y]) o (by omega) (by simp [hs]) (fun x hm => ?_) k (by omega)
      rcases List.mem_append.1 hm with h | h
      · exact hx x h
      · rw [List.mem_singleton.1 h]
        exact hy
    simp only [transposallaw08_CalendarChecks.l0]
    rw [if_pos (by omega), if_pos (by omega), if_pos (by omega), rd_get hi, w64 (x := (i : Int) + 1) (by omega) (by omega), show (i : Int) + 1 = ((i + 1 : Nat) : Int) by omega]
    simp only [Option.bind_some]
    cases z with
    | true =>
      rw [if_pos rfl, if_pos (by simp; omega)]
      exact step _ ⟨b1, b2⟩
    | false =>
      rw [if_neg (by decide), if_pos (by simp; omega)]
      refine step _ ?_
      have h1 := Int.tmod_lt_of_pos l[i] (show (0 : Int) < 100000 by omega)
      have h2 : -100000 < Int.tmod l[i] 100000 := by
        rcases Int.le_total 0 l[i] with h | h
        · have := Int.tmod_nonneg 100000 h
          omega
        · have h3 := Int.tmod_nonneg 100000 (show 0 ≤ -l[i] by omega)
          have h4 := Int.tmod_lt_of_pos (-l[i]) (show (0 : Int) < 100000 by omega)
          rw [Int.neg_tmod] at h3 h4
          omega
      unfold I32
      omega
theorem i32_wf {x : Int} (h : (Lit.int .i32 x).wf = true) : I32 x := by
  simp [Lit.wf, show IntKind.i32.min = -2147483648 from rfl, show IntKind.i32.max = 2147483647 from rfl] at h
  exact h
theorem CalendarChecks : transposallaw08_CalendarChecks.Pure := by
  intro l0 a1 a2 h0 _ w0 b1
  obtain ⟨K, hK⟩ : ∃ K : Nat, 60000 ≤ K := ⟨60000, Nat.le_refl _⟩
  refine ⟨K, ?_⟩
  unfold transposallaw08_CalendarChecks.f
  rw [awake8 K (by omega) (awake7 K (by omega))]
  simp only [Option.bind_some, if_true]
  by_cases h : (l0.length : Int) > 70
  · rw [if_pos h]
  · rw [if_neg h]
    exact l0_go (by omega) (fun x hx => i32_wf (w0 x hx)) (i32_wf b1) l0.length 0 [] 0 (by omega) rfl (by simp) K (by omega)
end Go.Proofs.YtfpfilmdlconhaaGreatDoor.Pure
