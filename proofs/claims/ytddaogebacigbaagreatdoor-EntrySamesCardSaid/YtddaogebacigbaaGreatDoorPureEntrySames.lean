/- EntrySames, as its pure statement. No conditions. -/
import Derived.Test.YtddaogebacigbaaGreatDoorXA11
import Derived.Test.YtddaogebacigbaaGreatDoorPLine
namespace Go.Proofs.YtddaogebacigbaaGreatDoor.Pure
open Go.RowKit Go.Proofs.YtddaogebacigbaaGreatDoorW.PrintWords Go.Proofs.YtddaogebacigbaaGreatDoorW.PrintLast Go.Proofs.YtddaogebacigbaaGreatDoorW.PrintMore Go.Proofs.YtddaogebacigbaaGreatDoor.XA Go.Proofs.YtddaogebacigbaaGreatDoor.PInts Go.Proofs.YtddaogebacigbaaGreatDoor.PCal Go.Proofs.YtddaogebacigbaaGreatDoor.PLine
set_option linter.unusedVariables false
set_option linter.unusedSimpArgs false
theorem mn_le (a b : Int) : mn a b ≤ a ∧ mn a b ≤ b ∧ (mn a b = a ∨ mn a b = b) := by unfold mn; split <;> omega
theorem l0_go {s t : List Ln} {e f : Int} (he : -32768 ≤ e ∧ e ≤ 32767) (hf : -32768 ≤ f ∧ f ≤ 32767) (hs : s.length ≤ 1000) (ht : t.length ≤ 1000) : ∀ (q i : Nat) (b : Bool), (q : Int) + i = mn (s.length : Int) (t.length : Int) → (b = true ↔ e = f ∧ s.length = t.length ∧ ∀ j < i, s[j]? = t[j]?) → ∀ k, 1002 + q < k → transposallaw09_EntrySames.l0 k e f s t b (mn (s.length : Int) (t.length : Int)) (i : Int) = some true
  | 0, i, b, h, hb, k, hk => by
    obtain ⟨k, rfl⟩ : ∃ k', k = k' + 1 := ⟨k - 1, by omega⟩
    obtain ⟨m1, m2, m3⟩ := mn_le (s.length : Int) (t.length : Int)
    obtain ⟨q, hq, hqi⟩ := SameJ_eq e f s t hs k (by omega)
    simp only [transposallaw09_EntrySames.l0]
    rw [if_neg (by omega), w32 (by omega) (by omega), w32 (by omega) (by omega), hq]
    simp only [Option.bind_some]
    have hx : q = true ↔ b = true := by
      rw [hqi, hb]
      constructor
      · rintro ⟨rfl, rfl⟩
        exact ⟨rfl, rfl, fun _ _ => rfl⟩
      · rintro ⟨h1, h2, h3⟩
        refine ⟨h1, List.ext_getElem? (fun j => ?_)⟩
        by_cases hj : j < i
        · exact h3 j hj
        · rw [List.getElem?_eq_none (by omega), List.getElem?_eq_none (by omega)]
    have hqb : q = b := by
      cases q <;> cases b <;> simp at hx ⊢
    rw [hqb, beq_self_eq_true]
  | q + 1, i, b, h, hb, k, hk => by
    obtain ⟨k, rfl⟩ : ∃ k', k = k' + 1 := ⟨k - 1, by omega⟩
    obtain ⟨m1, m2, m3⟩ := mn_le (s.length : Int) (t.length : Int)
    have hi : i < s.length := by omega
    have hj : i < t.length := by omega
    simp only [transposallaw09_EntrySames.l0]
    rw [if_pos (by omega), w64 (by omega) (by omega), show (i : Int) + 1 = ((i + 1 : Nat) : Int) by omega]
    cases b with
    | true =>
      obtain ⟨h1, h2, h3⟩ := hb.1 rfl
      rw [if_pos rfl, if_pos (by omega), if_pos (by omega), if_pos (by omega), rdl_get hi, rdl_get hj]
      refine l0_go he hf hs ht q (i + 1) _ (by omega) ?_ k (by omega)
      rw [eqb]
      constructor
      · intro hx
        refine ⟨h1, h2, fun j hlt => ?_⟩
        rcases Nat.lt_or_ge j i with hl | hl
        · exact h3 j hl
        · obtain rfl : j = i := by omega
          rw [List.getElem?_eq_getElem hi, List.getElem?_eq_getElem hj, hx]
      · rintro ⟨_, _, hx⟩
        have := hx i (by omega)
        rw [List.getElem?_eq_getElem hi, List.getElem?_eq_getElem hj] at this
        exact Option.some.inj this
    | false =>
      rw [if_neg (by decide)]
      refine l0_go he hf hs ht q (i + 1) _ (by omega) ⟨fun h => absurd h Bool.false_ne_true, ?_⟩ k (by omega)
      rintro ⟨h1, h2, h3⟩
      exact hb.2 ⟨h1, h2, fun j hlt => h3 j (by omega)⟩
theorem l0_all {s t : List Ln} {e f : Int} (he : -32768 ≤ e ∧ e ≤ 32767) (hf : -32768 ≤ f ∧ f ≤ 32767) (hs : s.length ≤ 1000) (ht : t.length ≤ 1000) (b : Bool) (hb : b = true ↔ e = f ∧ s.length = t.length) (k : Nat) (hk : 3000 ≤ k) : transposallaw09_EntrySames.j3 k e f s t b = some true := by
  obtain ⟨k, rfl⟩ : ∃ k', k = k' + 1 := ⟨k - 1, by omega⟩
  obtain ⟨m1, m2, m3⟩ := mn_le (s.length : Int) (t.length : Int)
  simp only [transposallaw09_EntrySames.j3]
  refine l0_go he hf hs ht (mn (s.length : Int) (t.length : Int)).toNat 0 b (by omega) ?_ k (by omega)
  rw [hb]
  exact ⟨fun h => ⟨h.1, h.2, fun j hj => absurd hj (Nat.not_lt_zero _)⟩, fun h => ⟨h.1, h.2.1⟩⟩
theorem l1_go {s t : List Ln} {e f : Int} (he : -32768 ≤ e ∧ e ≤ 32767) (hf : -32768 ≤ f ∧ f ≤ 32767) (hs : s.length ≤ 1000) (ht : t.length ≤ 1000) : ∀ (q i : Nat) (b : Bool), (q : Int) + i = mn (s.length : Int) (t.length : Int) → (b = true ↔ e = f ∧ s.length = t.length ∧ ∀ j < i, s[j]? = t[j]?) → ∀ k, 1002 + q < k → transposallaw09_EntrySames.l1 k e f s t b (mn (s.length : Int) (t.length : Int)) (i : Int) = some true
  | 0, i, b, h, hb, k, hk => by
    obtain ⟨k, rfl⟩ : ∃ k', k = k' + 1 := ⟨k - 1, by omega⟩
    obtain ⟨m1, m2, m3⟩ := mn_le (s.length : Int) (t.length : Int)
    obtain ⟨q, hq, hqi⟩ := SameJ_eq e f s t hs k (by omega)
    simp only [transposallaw09_EntrySames.l1]
    rw [if_neg (by omega), w32 (by omega) (by omega), w32 (by omega) (by omega), hq]
    simp only [Option.bind_some]
    have hx : q = true ↔ b = true := by
      rw [hqi, hb]
      constructor
      · rintro ⟨rfl, rfl⟩
        exact ⟨rfl, rfl, fun _ _ => rfl⟩
      · rintro ⟨h1, h2, h3⟩
        refine ⟨h1, List.ext_getElem? (fun j => ?_)⟩
        by_cases hj : j < i
        · exact h3 j hj
        · rw [List.getElem?_eq_none (by omega), List.getElem?_eq_none (by omega)]
    have hqb : q = b := by
      cases q <;> cases b <;> simp at hx ⊢
    rw [hqb, beq_self_eq_true]
  | q + 1, i, b, h, hb, k, hk => by
    obtain ⟨k, rfl⟩ : ∃ k', k = k' + 1 := ⟨k - 1, by omega⟩
    obtain ⟨m1, m2, m3⟩ := mn_le (s.length : Int) (t.length : Int)
    have hi : i < s.length := by omega
    have hj : i < t.length := by omega
    simp only [transposallaw09_EntrySames.l1]
    rw [if_pos (by omega), w64 (by omega) (by omega), show (i : Int) + 1 = ((i + 1 : Nat) : Int) by omega]
    cases b with
    | true =>
      obtain ⟨h1, h2, h3⟩ := hb.1 rfl
      rw [if_pos rfl, if_pos (by omega), if_pos (by omega), if_pos (by omega), rdl_get hi, rdl_get hj]
      refine l1_go he hf hs ht q (i + 1) _ (by omega) ?_ k (by omega)
      rw [eqb]
      constructor
      · intro hx
        refine ⟨h1, h2, fun j hlt => ?_⟩
        rcases Nat.lt_or_ge j i with hl | hl
        · exact h3 j hl
        · obtain rfl : j = i := by omega
          rw [List.getElem?_eq_getElem hi, List.getElem?_eq_getElem hj, hx]
      · rintro ⟨_, _, hx⟩
        have := hx i (by omega)
        rw [List.getElem?_eq_getElem hi, List.getElem?_eq_getElem hj] at this
        exact Option.some.inj this
    | false =>
      rw [if_neg (by decide)]
      refine l1_go he hf hs ht q (i + 1) _ (by omega) ⟨fun h => absurd h Bool.false_ne_true, ?_⟩ k (by omega)
      rintro ⟨h1, h2, h3⟩
      exact hb.2 ⟨h1, h2, fun j hlt => h3 j (by omega)⟩
theorem l1_all {s t : List Ln} {e f : Int} (he : -32768 ≤ e ∧ e ≤ 32767) (hf : -32768 ≤ f ∧ f ≤ 32767) (hs : s.length ≤ 1000) (ht : t.length ≤ 1000) (b : Bool) (hb : b = true ↔ e = f ∧ s.length = t.length) (k : Nat) (hk : 3000 ≤ k) : transposallaw09_EntrySames.j5 k e f s t b = some true := by
  obtain ⟨k, rfl⟩ : ∃ k', k = k' + 1 := ⟨k - 1, by omega⟩
  obtain ⟨m1, m2, m3⟩ := mn_le (s.length : Int) (t.length : Int)
  simp only [transposallaw09_EntrySames.j5]
  refine l1_go he hf hs ht (mn (s.length : Int) (t.length : Int)).toNat 0 b (by omega) ?_ k (by omega)
  rw [hb]
  exact ⟨fun h => ⟨h.1, h.2, fun j hj => absurd hj (Nat.not_lt_zero _)⟩, fun h => ⟨h.1, h.2.1⟩⟩
theorem j2_all {s t : List Ln} {e f : Int} (he : -32768 ≤ e ∧ e ≤ 32767) (hf : -32768 ≤ f ∧ f ≤ 32767) (hs : s.length ≤ 1000) (ht : t.length ≤ 1000) (k : Nat) (hk : 4000 ≤ k) : transposallaw09_EntrySames.j2 k e f s t = some true := by
  obtain ⟨k, rfl⟩ : ∃ k', k = k' + 1 := ⟨k - 1, by omega⟩
  simp only [transposallaw09_EntrySames.j2]
  by_cases h : e = f
  · rw [if_pos h]
    refine l0_all he hf hs ht _ ?_ k (by omega)
    rw [beq_iff_eq]
    exact ⟨fun h1 => ⟨h, by omega⟩, fun h1 => by omega⟩
  · rw [if_neg h]
    exact l0_all he hf hs ht _ ⟨fun h1 => absurd h1 Bool.false_ne_true, fun h1 => absurd h1.1 h⟩ k (by omega)
theorem j1_all {s t : List Ln} {e f n : Int} {b : Bool} (he : -32768 ≤ e ∧ e ≤ 32767) (hf : -32768 ≤ f ∧ f ≤ 32767) (hn : 0 ≤ n ∧ n ≤ 255) (hs : s.length ≤ 1000) (ht : t.length ≤ 1000) (hb : b = true → 0 < t.length) (k : Nat) (hk : 5000 ≤ k) : transposallaw09_EntrySames.j1 k e f s t n b = some true := by
  obtain ⟨k, rfl⟩ : ∃ k', k = k' + 1 := ⟨k - 1, by omega⟩
  simp only [transposallaw09_EntrySames.j1]
  cases b with
  | false =>
    rw [if_neg (by decide)]
    exact j2_all he hf hs ht k (by omega)
  | true =>
    have h0 := hb rfl
    rw [if_pos rfl, if_neg (by omega), w64 (by omega) (by omega)]
    have h1 := Int.tmod_nonneg (t.length : Int) hn.1
    have h2 := Int.tmod_lt_of_pos n (show (0 : Int) < (t.length : Int) by omega)
    rw [if_pos h1, if_pos h2]
    exact j2_all he hf hs (by rw [List.length_set]; exact ht) k (by omega)
theorem EntrySames : transposallaw09_EntrySames.Pure := by
  intro a0 a1 l2 l3 a4 a5 b0 b1 h2 w2 h3 w3 b5
  have c0 := i16_wf b0
  have c1 := i16_wf b1
  have c5 := u8_wf b5
  obtain ⟨K, hK⟩ : ∃ K : Nat, 60000 ≤ K := ⟨60000, Nat.le_refl _⟩
  obtain ⟨K, rfl⟩ : ∃ k', K = k' + 1 := ⟨K - 1, by omega⟩
  refine ⟨K + 1, ?_⟩
  unfold transposallaw09_EntrySames.f
  rw [awake9 (K + 1) (by omega) (awake8 (K + 1) (by omega) (awake7 (K + 1) (by omega)))]
  simp only [Option.bind_some, if_true]
  by_cases g2 : (l2.length : Int) > 40
  · rw [if_pos g2]
    simp only [transposallaw09_EntrySames.j0]
    exact if_pos trivial
  · rw [if_neg g2]
    by_cases g3 : (l3.length : Int) > 40
    · rw [decide_eq_true g3]
      simp only [transposallaw09_EntrySames.j0]
      exact if_pos trivial
    · rw [decide_eq_false g3]
      simp only [transposallaw09_EntrySames.j0]
      rw [if_neg (by decide)]
      cases a4 with
      | true =>
        rw [if_pos rfl, show entry_Line_14.f l2 = some l2 from if_pos (by omega)]
        simp only [Option.bind_some]
        by_cases g : (l2.length : Int) > 0
        · rw [if_pos g]
          exact j1_all c0 c0 c5 (by omega) (by omega) (fun _ => by omega) K (by omega)
        · rw [if_neg g]
          exact j1_all c0 c0 c5 (by omega) (by omega) (fun h => absurd h Bool.false_ne_true) K (by omega)
      | false =>
        rw [if_neg (by decide)]
        by_cases h : a0 = a1
        · rw [if_pos h]
          refine l1_all c0 c1 (by omega) (by omega) _ ?_ K (by omega)
          rw [beq_iff_eq]
          exact ⟨fun h1 => ⟨h, by omega⟩, fun h1 => by omega⟩
        · rw [if_neg h]
          exact l1_all c0 c1 (by omega) (by omega) _ ⟨fun h1 => absurd h1 Bool.false_ne_true, fun h1 => absurd h1.1 h⟩ K (by omega)
end Go.Proofs.YtddaogebacigbaaGreatDoor.Pure
