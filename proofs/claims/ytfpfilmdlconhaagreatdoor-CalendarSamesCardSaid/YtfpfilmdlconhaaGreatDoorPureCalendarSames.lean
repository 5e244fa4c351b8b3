/- CalendarSames, as its pure statement. No conditions. -/
import Derived.Test.YtfpfilmdlconhaaGreatDoorXA10
import Derived.Test.YtfpfilmdlconhaaGreatDoorPAwake7
import Derived.Test.YtfpfilmdlconhaaGreatDoorPCal
namespace Go.Proofs.YtfpfilmdlconhaaGreatDoor.Pure
open Go.RowKit Go.Proofs.YtfpfilmdlconhaaGreatDoorW.PrintWords Go.Proofs.YtfpfilmdlconhaaGreatDoorW.PrintLast Go.Proofs.YtfpfilmdlconhaaGreatDoorW.PrintMore Go.Proofs.YtfpfilmdlconhaaGreatDoor.XA Go.Proofs.YtfpfilmdlconhaaGreatDoor.PInts Go.Proofs.YtfpfilmdlconhaaGreatDoor.PCal
set_option linter.unusedVariables false
set_option linter.unusedSimpArgs false
theorem mn_le (a b : Int) : mn a b ≤ a ∧ mn a b ≤ b ∧ (mn a b = a ∨ mn a b = b) := by unfold mn; split <;> omega
theorem l0_go {s t : List Int} {e f : Int} (hs : s.length ≤ 1000) (ht : t.length ≤ 1000) : ∀ (q i : Nat) (b : Bool), (q : Int) + i = mn (s.length : Int) (t.length : Int) → (b = true ↔ e = f ∧ s.length = t.length ∧ ∀ j < i, s[j]? = t[j]?) → ∀ k, 1002 + q < k → transposallaw08_CalendarSames.l0 k b (mn (s.length : Int) (t.length : Int)) (i : Int) s e t f = some true
  | 0, i, b, h, hb, k, hk => by
    obtain ⟨k, rfl⟩ : ∃ k', k = k' + 1 := ⟨k - 1, by omega⟩
    obtain ⟨m1, m2, m3⟩ := mn_le (s.length : Int) (t.length : Int)
    simp only [transposallaw08_CalendarSames.l0]
    rw [if_neg (by omega), SameC_eq s e t f hs k (by omega)]
    simp only [Option.bind_some]
    have hx : (e = f ∧ s = t) ↔ b = true := by
      rw [hb]
      constructor
      · rintro ⟨rfl, rfl⟩
        exact ⟨rfl, rfl, fun _ _ => rfl⟩
      · rintro ⟨h1, h2, h3⟩
        refine ⟨h1, List.ext_getElem? (fun j => ?_)⟩
        by_cases hj : j < i
        · exact h3 j hj
        · rw [List.getElem?_eq_none (by omega), List.getElem?_eq_none (by omega)]
    cases b with
    | true => rw [decide_eq_true (hx.2 rfl)]; rfl
    | false => rw [decide_eq_false (fun h => Bool.false_ne_true (hx.1 h))]; rfl
  | q + 1, i, b, h, hb, k, hk => by
    obtain ⟨k, rfl⟩ : ∃ k', k = k' + 1 := ⟨k - 1, by omega⟩
    obtain ⟨m1, m2, m3⟩ := mn_le (s.length : Int) (t.length : Int)
    have hi : i < s.length := by omega
    have hj : i < t.length := by omega
    simp only [transposallaw08_CalendarSames.l0]
    rw [if_pos (by omega), w64 (by omega) (by omega), show (i : Int) + 1 = ((i + 1 : Nat) : Int) by omega]
    cases b with
    | true =>
      obtain ⟨h1, h2, h3⟩ := hb.1 rfl
      rw [if_pos rfl, if_pos (by omega), if_pos (by omega), if_pos (by omega), rd_get hi, rd_get hj]
      refine l0_go hs ht q (i + 1) _ (by omega) ?_ k (by omega)
      rw [beq_iff_eq]
      constructor
      · intro hx
        refine ⟨h1, h2, fun j hlt => ?_⟩
        rcases Nat.lt_or_ge j i with hl | hl
        · exact h3 j hl
        · obtain rfl : j = i := by omega
          rw [List.getElem?_eq_getElem hi, List.getElem?_eq_getElem hj, hx]
      · rintro ⟨_, _, hx⟩
        have := hx i (by omega)
        rw [List.getElem?_eq_getElem hi, List.getElem?_eq_getElem hj] at this
        exact Option.some.inj this
    | false =>
      rw [if_neg (by decide)]
      refine l0_go hs ht q (i + 1) _ (by omega) ⟨fun h => absurd h Bool.false_ne_true, ?_⟩ k (by omega)
      rintro ⟨h1, h2, h3⟩
      exact hb.2 ⟨h1, h2, fun j hlt => h3 j (by omega)⟩
theorem l1_go {s t : List Int} {e f : Int} (hs : s.length ≤ 1000) (ht : t.length ≤ 1000) : ∀ (q i : Nat) (b : Bool), (q : Int) + i = mn (s.length : Int) (t.length : Int) → (b = true ↔ e = f ∧ s.length = t.length ∧ ∀ j < i, s[j]? = t[j]?) → ∀ k, 1002 + q < k → transposallaw08_CalendarSames.l1 k b (mn (s.length : Int) (t.length : Int)) (i : Int) s e t f = some true
  | 0, i, b, h, hb, k, hk => by
    obtain ⟨k, rfl⟩ : ∃ k', k = k' + 1 := ⟨k - 1, by omega⟩
    obtain ⟨m1, m2, m3⟩ := mn_le (s.length : Int) (t.length : Int)
    simp only [transposallaw08_CalendarSames.l1]
    rw [if_neg (by omega), SameC_eq s e t f hs k (by omega)]
    simp only [Option.bind_some]
    have hx : (e = f ∧ s = t) ↔ b = true := by
      rw [hb]
      constructor
      · rintro ⟨rfl, rfl⟩
        exact ⟨rfl, rfl, fun _ _ => rfl⟩
      · rintro ⟨h1, h2, h3⟩
        refine ⟨h1, List.ext_getElem? (fun j => ?_)⟩
        by_cases hj : j < i
        · exact h3 j hj
        · rw [List.getElem?_eq_none (by omega), List.getElem?_eq_none (by omega)]
    cases b with
    | true => rw [decide_eq_true (hx.2 rfl)]; rfl
    | false => rw [decide_eq_false (fun h => Bool.false_ne_true (hx.1 h))]; rfl
  | q + 1, i, b, h, hb, k, hk => by
    obtain ⟨k, rfl⟩ : ∃ k', k = k' + 1 := ⟨k - 1, by omega⟩
    obtain ⟨m1, m2, m3⟩ := mn_le (s.length : Int) (t.length : Int)
    have hi : i < s.length := by omega
    have hj : i < t.length := by omega
    simp only [transposallaw08_CalendarSames.l1]
    rw [if_pos (by omega), w64 (by omega) (by omega), show (i : Int) + 1 = ((i + 1 : Nat) : Int) by omega]
    cases b with
    | true =>
      obtain ⟨h1, h2, h3⟩ := hb.1 rfl
      rw [if_pos rfl, if_pos (by omega), if_pos (by omega), if_pos (by omega), rd_get hi, rd_get hj]
      refine l1_go hs ht q (i + 1) _ (by omega) ?_ k (by omega)
      rw [beq_iff_eq]
      constructor
      · intro hx
        refine ⟨h1, h2, fun j hlt => ?_⟩
        rcases Nat.lt_or_ge j i with hl | hl
        · exact h3 j hl
        · obtain rfl : j = i := by omega
          rw [List.getElem?_eq_getElem hi, List.getElem?_eq_getElem hj, hx]
      · rintro ⟨_, _, hx⟩
        have := hx i (by omega)
        rw [List.getElem?_eq_getElem hi, List.getElem?_eq_getElem hj] at this
        exact Option.some.inj this
    | false =>
      rw [if_neg (by decide)]
      refine l1_go hs ht q (i + 1) _ (by omega) ⟨fun h => absurd h Bool.false_ne_true, ?_⟩ k (by omega)
      rintro ⟨h1, h2, h3⟩
      exact hb.2 ⟨h1, h2, fun j hlt => h3 j (by omega)⟩
theorem CalendarSames : transposallaw08_CalendarSames.Pure := by
  intro a0 a1 l2 l3 a4 b0 b1 h2 _ w2 h3 _ w3
  obtain ⟨c1, c2⟩ := i16_wf b0
  obtain ⟨c3, c4⟩ := i16_wf b1
  obtain ⟨s, e, M, hM⟩ := makeC_eq (a := a0) (by omega) h2 w2
  obtain ⟨t, f, M', hM'⟩ := makeC_eq (a := a1) (by omega) h3 w3
  have hl := M.len
  have hl' := M'.len
  obtain ⟨K, hK⟩ : ∃ K : Nat, 60000 ≤ K := ⟨60000, Nat.le_refl _⟩
  refine ⟨K, ?_⟩
  unfold transposallaw08_CalendarSames.f
  rw [awake8 K (by omega) (awake7 K (by omega))]
  simp only [Option.bind_some, if_true]
  rw [hM K (by omega), hM' K (by omega)]
  simp only [Option.bind_some]
  obtain ⟨K, rfl⟩ : ∃ k', K = k' + 1 := ⟨K - 1, by omega⟩
  cases a4 with
  | true =>
    rw [if_pos rfl, if_pos trivial]
    simp only [transposallaw08_CalendarSames.j0]
    refine l0_go (by omega) (by omega) s.length 0 _ (by unfold mn; rw [if_neg (by omega)]; omega) (by simp) K (by omega)
  | false =>
    rw [if_neg (by decide)]
    obtain ⟨m1, m2, m3⟩ := mn_le (s.length : Int) (t.length : Int)
    simp only [transposallaw08_CalendarSames.j2]
    by_cases hx : (s.length : Int) = (t.length : Int)
    · rw [if_pos hx]
      refine l1_go (by omega) (by omega) (mn (s.length : Int) (t.length : Int)).toNat 0 _ (by omega) ?_ K (by omega)
      rw [beq_iff_eq]
      exact ⟨fun h => ⟨h, by omega, fun j hj => absurd hj (by omega)⟩, fun h => h.1⟩
    · rw [if_neg hx]
      refine l1_go (by omega) (by omega) (mn (s.length : Int) (t.length : Int)).toNat 0 _ (by omega) ⟨fun h => absurd h Bool.false_ne_true, ?_⟩ K (by omega)
      rintro ⟨_, h, _⟩
      omega
end Go.Proofs.YtfpfilmdlconhaaGreatDoor.Pure
