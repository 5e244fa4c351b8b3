/- Books: frames that are made; lines in them. -/
import Derived.Test.YtddaogebacigbaaGreatDoorXA0
import Derived.Test.YtddaogebacigbaaGreatDoorXA2
import Derived.Test.YtddaogebacigbaaGreatDoorXA3
import Derived.Test.YtddaogebacigbaaGreatDoorXA5
import Derived.Test.YtddaogebacigbaaGreatDoorXA6
import Derived.Test.YtddaogebacigbaaGreatDoorPChartB
import Derived.Test.YtddaogebacigbaaGreatDoorPSort
import Derived.Test.YtddaogebacigbaaGreatDoorPCal
namespace Go.Proofs.YtddaogebacigbaaGreatDoor.PBook
open Go.RowKit Go.Proofs.YtddaogebacigbaaGreatDoorW.PrintWords Go.Proofs.YtddaogebacigbaaGreatDoorW.PrintLast Go.Proofs.YtddaogebacigbaaGreatDoor.XA Go.Proofs.YtddaogebacigbaaGreatDoor.ChartMath Go.Proofs.YtddaogebacigbaaGreatDoor.PChart
set_option linter.unusedVariables false
set_option linter.unusedSimpArgs false
theorem up {α : Type} {f : Nat → Option α} (h : ∀ k, LeO (f k) (f (k + 1))) {a : Nat} {r : α} (e : f a = some r) : ∀ b, a ≤ b → f b = some r := by
  intro b hb
  obtain ⟨d, rfl⟩ : ∃ d, b = a + d := ⟨b - a, by omega⟩
  induction d with
  | zero => exact e
  | succ d ih => exact h _ _ (ih (by omega))
/-- What a made frame is. -/
structure FrameOk (ch : List Acc) (un st : List Int) (en : Int) : Prop where
  sorted : Sorted ch
  chLen : ch.length ≤ 40
  chSome : 0 < ch.length
  un_ : PInts.SI un
  unLen : un.length ≤ 9
  unSome : 0 < un.length
theorem frame_eq {l0 : List PChart.Src} {l1 : List Int} {a : Int} {l3 : List Int} (l4 : List S103) (h0 : l0.length ≤ maxLen) (w0 : SrcWf l0) (h1 : l1.length ≤ 1000) (w1 : ∀ x ∈ l1, (Lit.int .u16 x).wf = true) (ha : -100000 ≤ a ∧ a ≤ 100000) (h3 : l3.length ≤ maxLen) (w3 : ∀ x ∈ l3, (Lit.int .u8 x).wf = true) :
    ∃ ch un st en, FrameOk ch un st en ∧ PCal.MadeC a st en ∧ ∀ k, 4000 ≤ k → transposallaw10_Frame.f k l0 l1 a l3 l4 = some (ch, un, st, en) := by
  obtain ⟨c, M, hc⟩ := make_eq h0 w0
  obtain ⟨u, S, hu1, hu2, _, hu⟩ := PInts.makeU_eq (l := l1) (Nat.le_trans h1 (by decide)) w1
  obtain ⟨s, e, MC, hs⟩ := PCal.makeC_eq ha h3 w3
  refine ⟨chartOr c, unitsOr u, s, e, ?_, MC, fun k hk => ?_⟩
  · have hc' : chartOr c = [⟨7, cashB, 0, 0⟩] ∨ (chartOr c = c ∧ 0 < c.length) := by
      unfold chartOr
      split
      · exact .inl rfl
      · exact .inr ⟨rfl, by omega⟩
    have hu' : unitsOr u = [5] ∨ (unitsOr u = u ∧ 0 < u.length) := by
      unfold unitsOr
      split
      · exact .inl rfl
      · exact .inr ⟨rfl, by omega⟩
    have h40 := M.len
    constructor
    · rcases hc' with h | h
      · rw [h]; exact List.pairwise_singleton _ _
      · rw [h.1]; exact M.good.sorted
    · rcases hc' with h | h
      · rw [h]; decide
      · rw [h.1]; exact h40
    · rcases hc' with h | h
      · rw [h]; decide
      · rw [h.1]; exact h.2
    · rcases hu' with h | h
      · rw [h]; exact List.pairwise_singleton _ _
      · rw [h.1]; exact S
    · rcases hu' with h | h
      · rw [h]; decide
      · rw [h.1]; exact hu2
    · rcases hu' with h | h
      · rw [h]; decide
      · rw [h.1]; exact h.2
  · unfold transposallaw10_Frame.f frameF
    rw [hc k (by omega)]
    simp only [Option.bind_some]
    rw [hu k (by omega)]
    simp only [Option.bind_some]
    rw [hs k (by omega)]
    rfl
theorem light_go (l4 : List S103) (l0 : List PChart.Src) (l1 : List Int) (a : Int) (l3 : List Int) (hl : l4.length ≤ maxLen) : ∀ (d i : Nat), d + i = l4.length → ∃ b, (b = true → l0.length ≤ 20 ∧ l1.length ≤ 8 ∧ l3.length ≤ 8 ∧ l4.length ≤ 12) ∧ ∀ k, d < k → transposallaw10_B_Light.l0 k l4 (l4.length : Int) (i : Int) l0 l1 a l3 l4 = some b := by
  intro d
  induction d with
  | zero =>
    intro i h
    by_cases h1 : l0.length ≤ 20
    · by_cases h2 : l1.length ≤ 8
      · by_cases h3 : l3.length ≤ 8
        · refine ⟨decide (l4.length ≤ 12), fun h => ⟨h1, h2, h3, of_decide_eq_true h⟩, fun k hk => ?_⟩
          obtain ⟨k, rfl⟩ : ∃ k', k = k' + 1 := ⟨k - 1, by omega⟩
          simp only [transposallaw10_B_Light.l0]
          rw [if_neg (by omega), if_pos (by omega), if_pos (by omega), if_pos (by omega)]
          congr 1
          apply decide_eq_decide.2
          omega
        · refine ⟨false, fun h => absurd h Bool.false_ne_true, fun k hk => ?_⟩
          obtain ⟨k, rfl⟩ : ∃ k', k = k' + 1 := ⟨k - 1, by omega⟩
          simp only [transposallaw10_B_Light.l0]
          rw [if_neg (by omega), if_pos (by omega), if_pos (by omega), if_neg (by omega)]
      · refine ⟨false, fun h => absurd h Bool.false_ne_true, fun k hk => ?_⟩
        obtain ⟨k, rfl⟩ : ∃ k', k = k' + 1 := ⟨k - 1, by omega⟩
        simp only [transposallaw10_B_Light.l0]
        rw [if_neg (by omega), if_pos (by omega), if_neg (by omega)]
    · refine ⟨false, fun h => absurd h Bool.false_ne_true, fun k hk => ?_⟩
      obtain ⟨k, rfl⟩ : ∃ k', k = k' + 1 := ⟨k - 1, by omega⟩
      simp only [transposallaw10_B_Light.l0]
      rw [if_neg (by omega), if_neg (by omega)]
  | succ d ih =>
    intro i h
    have hm : maxLen ≤ 9223372036854775807 := by decide
    by_cases h8 : (((rd_T103 l4 (i : Int)).f1).length : Int) > 8
    · refine ⟨false, fun h => absurd h Bool.false_ne_true, fun k hk => ?_⟩
      obtain ⟨k, rfl⟩ : ∃ k', k = k' + 1 := ⟨k - 1, by omega⟩
      simp only [transposallaw10_B_Light.l0]
      rw [if_pos (by omega), if_pos (by omega), if_pos (by omega), if_pos h8]
    · obtain ⟨b, hb, hg⟩ := ih (i + 1) (by omega)
      refine ⟨b, hb, fun k hk => ?_⟩
      obtain ⟨k, rfl⟩ : ∃ k', k = k' + 1 := ⟨k - 1, by omega⟩
      simp only [transposallaw10_B_Light.l0]
      rw [if_pos (by omega), if_pos (by omega), if_pos (by omega), if_neg h8, PChart.w64 (by omega) (by omega)]
      exact hg k (by omega)
theorem light_eq (l4 : List S103) (l0 : List PChart.Src) (l1 : List Int) (a : Int) (l3 : List Int) (hl : l4.length ≤ maxLen) : ∃ b, (b = true → l0.length ≤ 20 ∧ l1.length ≤ 8 ∧ l3.length ≤ 8 ∧ l4.length ≤ 12) ∧ ∀ k, l4.length < k → transposallaw10_B_Light.f k l0 l1 a l3 l4 = some b :=
  light_go l4 l0 l1 a l3 hl l4.length 0 (by omega)
theorem has_eq (ch : List Acc) (hc : ch.length ≤ 1000) (un st : List Int) (en : Int) (hl : un.length ≤ 1000) (q0 q1 q2 q3 : Int) : transposallaw10_has.f ch un st en q0 q1 q2 q3 = some (ch.any (fun x => x.f0 == q0) && un.any (fun x => x == q1) && (q2 == 0 || un.any (fun x => x == q2))) :=
  if_pos ⟨by omega, by omega⟩
theorem any_find (ch : List Acc) (n : Int) : (row (find ch n)).2.2.2.2 = ch.any (fun x => x.f0 == n) := by
  cases h : find ch n with
  | none =>
    have := find_none h
    refine (Bool.eq_false_iff.2 ?_).symm
    intro ht
    obtain ⟨x, hx, he⟩ := List.any_eq_true.1 ht
    exact this x hx (by simpa using he)
  | some a =>
    obtain ⟨h1, h2⟩ := find_mem h
    exact (List.any_eq_true.2 ⟨a, h1, by simpa using h2⟩).symm
theorem any_mem (un : List Int) (n : Int) : un.any (fun x => x == n) = decide (n ∈ un) := by
  rw [Bool.eq_iff_iff]
  simp
theorem line_eq {ch : List Acc} {un st : List Int} {en : Int} (O : FrameOk ch un st en) (q0 q1 q2 q3 : Int) (k : Nat) (hk : 3000 ≤ k) : book_Frame_Line.f k ch un st en q0 q1 q2 q3 = some (if (ch.any (fun x => x.f0 == q0) && un.any (fun x => x == q1) && (q2 == 0 || un.any (fun x => x == q2))) = true then 0 else 8) := by
  have h1 := O.chLen
  have h2 := O.unLen
  unfold book_Frame_Line.f flineF
  rw [Get_eq O.sorted q0 (by omega) k (by omega)]
  simp only [Option.bind_some]
  rw [any_find, any_mem, any_mem, PInts.hasU q1 (by omega) k (by omega), PInts.hasU q2 (by omega) k (by omega)]
  simp only [Option.bind_some]
  cases ch.any (fun x => x.f0 == q0) <;> by_cases h3 : q1 ∈ un <;> by_cases h4 : q2 = 0 <;> by_cases h5 : q2 ∈ un <;> simp [h3, h4, h5]
end Go.Proofs.YtddaogebacigbaaGreatDoor.PBook
