/- ChartTurns, as its pure statement. No conditions. -/
import Derived.Test.YtckggmblafafjaaGreatDoorXA11
import Derived.Test.YtckggmblafafjaaGreatDoorPAwake6
import Derived.Test.YtckggmblafafjaaGreatDoorPTurn
namespace Go.Proofs.YtckggmblafafjaaGreatDoor.Pure
open Go.RowKit Go.Proofs.YtckggmblafafjaaGreatDoorW.PrintWords Go.Proofs.YtckggmblafafjaaGreatDoorW.PrintLast Go.Proofs.YtckggmblafafjaaGreatDoor.XA Go.Proofs.YtckggmblafafjaaGreatDoor.ChartMath Go.Proofs.YtckggmblafafjaaGreatDoor.PChart
set_option linter.unusedVariables false
set_option linter.unusedSimpArgs false
/-- What the law puts together, account by account. -/
def go (a : Acc) : List Acc → Bool → List Acc → List Acc
  | [], d, acc => if d = true then acc else acc ++ [a]
  | y :: t, d, acc => go a t (d || (decide (y.f0 ≥ a.f0) && !d)) ((if (decide (y.f0 ≥ a.f0) && !d) = true then acc ++ [a] else acc) ++ (if y.f0 = a.f0 then [] else [y]))
theorem go_true (a : Acc) : ∀ (l acc : List Acc), go a l true acc = acc ++ l.filter (fun x => x.f0 != a.f0)
  | [], acc => by simp [go]
  | y :: t, acc => by
    rw [go]
    simp only [Bool.true_or, Bool.not_true, Bool.and_false]
    rw [if_neg (by simp), go_true a t]
    by_cases h : y.f0 = a.f0
    · rw [if_pos h, List.filter_cons_of_neg (by simp [h]), List.append_nil]
    · rw [if_neg h, List.filter_cons_of_pos (by simp [h]), List.append_assoc]
      rfl
theorem go_false (a : Acc) : ∀ (l acc : List Acc), go a l false acc = acc ++ withA l a
  | [], acc => by simp [go, withA]
  | y :: t, acc => by
    rw [go]
    simp only [Bool.false_or, Bool.not_false, Bool.and_true]
    by_cases hlt : y.f0 < a.f0
    · have h1 : decide (y.f0 ≥ a.f0) = false := decide_eq_false (by omega)
      rw [h1, if_neg (by simp), if_neg (by omega), go_false a t]
      unfold withA
      rw [List.takeWhile_cons_of_pos (p := fun x : Acc => decide (x.f0 < a.f0)) (decide_eq_true hlt), List.dropWhile_cons_of_pos (p := fun x : Acc => decide (x.f0 < a.f0)) (decide_eq_true hlt)]
      simp
    · have h1 : decide (y.f0 ≥ a.f0) = true := decide_eq_true (by omega)
      rw [h1, if_pos rfl, go_true a t]
      unfold withA
      rw [List.takeWhile_cons_of_neg (by simp; omega), List.dropWhile_cons_of_neg (by simp; omega)]
      by_cases h : y.f0 = a.f0
      · rw [if_pos h, List.filter_cons_of_neg (by simp [h])]
        simp
      · rw [if_neg h, List.filter_cons_of_pos (by simp [h])]
        simp
theorem turns_go {tw : Int} {c F W M : List Acc} {a : Acc} {B : Nat} (hc : c.length ≤ 250) (hJ : ∀ k, B < k → transposallaw06_ChartTurns.j4 k tw c c a.f0 F W M a.f0 a.f1 a.f2 a.f3 = some true) :
    ∀ (d i : Nat) (x12 x13 x14 : List Acc) (x15 : Bool), d + i = c.length → x12.length ≤ i → x13.length ≤ i + 1 → x14.length ≤ i → (x15 = false → x13.length ≤ i) → x12 ++ (c.drop i).filter (fun x => x.f0 != a.f0) = F → go a (c.drop i) x15 x13 = W → x14 ++ (c.drop i).map (hung a.f0 (tw % 4294967296)) = M →
      ∀ k, B + 5 * d + 2 < k → transposallaw06_ChartTurns.l0 k tw c c a.f0 x12 x13 x14 x15 c (c.length : Int) (i : Int) a.f0 a.f1 a.f2 a.f3 = some true
  | 0, i, x12, x13, x14, x15, h, l12, l13, l14, l15, e12, e13, e14, k, hk => by
    obtain ⟨k, rfl⟩ : ∃ k', k = k' + 1 := ⟨k - 1, by omega⟩
    rw [List.drop_eq_nil_of_le (by omega)] at e12 e13 e14
    simp only [List.filter_nil, List.map_nil, List.append_nil] at e12 e14
    subst e12 e14
    simp only [transposallaw06_ChartTurns.l0]
    rw [if_neg (by omega)]
    rw [go] at e13
    cases x15
    · rw [if_neg (by simp)] at e13 ⊢
      subst e13
      rw [if_pos (by omega)]
      exact hJ k (by omega)
    · rw [if_pos rfl] at e13 ⊢
      subst e13
      exact hJ k (by omega)
  | d + 1, i, x12, x13, x14, x15, h, l12, l13, l14, l15, e12, e13, e14, k, hk => by
    have hi : i < c.length := by omega
    have e := rdA_get hi
    unfold rdA at e
    obtain ⟨k, rfl⟩ : ∃ k', k = k' + 4 := ⟨k - 4, by omega⟩
    rw [List.drop_eq_getElem_cons hi] at e12 e13 e14
    rw [go] at e13
    -- what the rest of the round comes to
    have R : ∀ (y12 y13 y14 : List Acc) (y15 : Bool), y12.length ≤ i + 1 → y13.length ≤ i + 2 → y14.length ≤ i + 1 → (y15 = false → y13.length ≤ i + 1) → y12 ++ (c.drop (i + 1)).filter (fun x => x.f0 != a.f0) = F → go a (c.drop (i + 1)) y15 y13 = W → y14 ++ (c.drop (i + 1)).map (hung a.f0 (tw % 4294967296)) = M →
        transposallaw06_ChartTurns.l0 k tw c c a.f0 y12 y13 y14 y15 c (c.length : Int) (wrap64 ((i : Int) + 1)) a.f0 a.f1 a.f2 a.f3 = some true := by
      intro y12 y13 y14 y15 q1 q2 q3 q4 q5 q6 q7
      rw [w64 (by omega) (by omega), show (i : Int) + 1 = ((i + 1 : Nat) : Int) by omega]
      exact turns_go hc hJ d (i + 1) y12 y13 y14 y15 (by omega) q1 (by omega) q3 (by intro hq; have := q4 hq; omega) q5 q6 q7 k (by omega)
    have R3 : ∀ (y12 y13 : List Acc) (y15 : Bool), y12.length ≤ i + 1 → y13.length ≤ i + 1 → (y15 = false → y13.length ≤ i) → y12 ++ (c.drop (i + 1)).filter (fun x => x.f0 != a.f0) = F → go a (c.drop (i + 1)) y15 (y13 ++ (if c[i].f0 = a.f0 then [] else [c[i]])) = W →
        transposallaw06_ChartTurns.j3 (k + 1) tw c c a.f0 y12 y13 x14 y15 c (c.length : Int) (i : Int) a.f0 a.f1 a.f2 a.f3 c[i].f0 c[i].f1 c[i].f2 c[i].f3 = some true := by
      intro y12 y13 y15 q1 q2 q3 q4 q5
      simp only [transposallaw06_ChartTurns.j3]
      rw [List.map_cons] at e14
      by_cases hn : c[i].f0 = a.f0
      · rw [if_pos hn] at q5 ⊢
        rw [List.append_nil] at q5
        by_cases hp : c[i].f3 = a.f0
        · rw [if_pos hp, if_pos (by omega)]
          refine R _ _ _ _ q1 (by omega) (by simp; omega) (by intro hq; have := q3 hq; omega) q4 q5 ?_
          rw [show hung a.f0 (tw % 4294967296) c[i] = ⟨c[i].f0, c[i].f1, c[i].f2, tw % 4294967296⟩ from if_pos hp] at e14
          rw [List.append_assoc]
          exact e14
        · rw [if_neg hp, if_pos (by omega)]
          refine R _ _ _ _ q1 (by omega) (by simp; omega) (by intro hq; have := q3 hq; omega) q4 q5 ?_
          rw [show hung a.f0 (tw % 4294967296) c[i] = c[i] from if_neg hp] at e14
          rw [List.append_assoc]
          exact e14
      · rw [if_neg hn] at q5 ⊢
        rw [if_pos (by omega)]
        simp only [Option.bind_some]
        by_cases hp : c[i].f3 = a.f0
        · rw [if_pos hp, if_pos (by omega)]
          refine R _ _ _ _ q1 (by simp; omega) (by simp; omega) (by intro hq; have := q3 hq; simp; omega) q4 q5 ?_
          rw [show hung a.f0 (tw % 4294967296) c[i] = ⟨c[i].f0, c[i].f1, c[i].f2, tw % 4294967296⟩ from if_pos hp] at e14
          rw [List.append_assoc]
          exact e14
        · rw [if_neg hp, if_pos (by omega)]
          refine R _ _ _ _ q1 (by simp; omega) (by simp; omega) (by intro hq; have := q3 hq; simp; omega) q4 q5 ?_
          rw [show hung a.f0 (tw % 4294967296) c[i] = c[i] from if_neg hp] at e14
          rw [List.append_assoc]
          exact e14
    have R1 : ∀ (y12 : List Acc), y12.length ≤ i + 1 → y12 ++ (c.drop (i + 1)).filter (fun x => x.f0 != a.f0) = F → transposallaw06_ChartTurns.j1 (k + 3) tw c c a.f0 y12 x13 x14 x15 c (c.length : Int) (i : Int) a.f0 a.f1 a.f2 a.f3 c[i].f0 c[i].f1 c[i].f2 c[i].f3 = some true := by
      intro y12 q1 q2
      simp only [transposallaw06_ChartTurns.j1]
      by_cases hge : c[i].f0 ≥ a.f0
      · rw [if_pos hge]
        rw [decide_eq_true hge] at e13
        simp only [transposallaw06_ChartTurns.j2]
        cases x15
        · simp only [Bool.not_false, Bool.and_true, Bool.false_or, if_true] at e13 ⊢
          rw [if_pos (by omega)]
          exact R3 _ _ _ q1 (by simp; have := l15 rfl; omega) (by simp) q2 e13
        · simp only [Bool.not_true, Bool.and_false, Bool.or_false] at e13 ⊢
          rw [if_neg (by simp)] at e13 ⊢
          exact R3 _ _ _ q1 l13 (by simp) q2 e13
      · rw [if_neg hge]
        rw [decide_eq_false hge] at e13
        simp only [transposallaw06_ChartTurns.j2, Bool.false_and, Bool.or_false] at e13 ⊢
        rw [if_neg (by simp)] at e13 ⊢
        exact R3 _ _ _ q1 l13 l15 q2 e13
    simp only [transposallaw06_ChartTurns.l0]
    rw [if_pos (by omega), if_pos (by omega), if_pos (by omega), e]
    by_cases hn : c[i].f0 = a.f0
    · rw [if_pos hn]
      rw [List.filter_cons_of_neg (by simp [hn])] at e12
      exact R1 _ (by omega) e12
    · rw [if_neg hn, if_pos (by omega)]
      rw [List.filter_cons_of_pos (by simp [hn])] at e12
      exact R1 _ (by simp; omega) (by rw [List.append_assoc]; exact e12)
theorem ChartTurns : transposallaw06_ChartTurns.Pure := by
  intro l0 a1 a2_0 a2_1 a2_2 a2_3 a3 h1 h2 b1 b2 b3 b4 b5 b6
  obtain ⟨c, M, hc⟩ := make_eq h1 h2
  have hl := M.len
  obtain ⟨K, hK⟩ : ∃ K : Nat, 60000 ≤ K := ⟨60000, Nat.le_refl _⟩
  refine ⟨K, ?_⟩
  have hM := hc K (by omega)
  unfold transposallaw06_ChartTurns.f
  rw [awake6 K (by omega)]
  simp only [Option.bind_some, if_true]
  rw [hM]
  simp only [Option.bind_some]
  refine turns_go (a := ⟨a1 % 4294967296, a2_1, a2_2, a2_3⟩) (B := 5000) (F := c.filter (fun x => x.f0 != a1 % 4294967296)) (W := withA c ⟨a1 % 4294967296, a2_1, a2_2, a2_3⟩) (M := c.map (hung (a1 % 4294967296) (a3 % 4294967296))) (by omega) ?_ c.length 0 [] [] [] false (by omega) (by simp) (by simp) (by simp) (by simp) rfl ?_ rfl K (by omega)
  · intro k hk
    obtain ⟨k, rfl⟩ : ∃ k', k = k' + 1 := ⟨k - 1, by omega⟩
    simp only [transposallaw06_ChartTurns.j4]
    rw [Without_eq c _ (by omega) k (by omega)]
    simp only [Option.bind_some]
    have hfl : (c.filter (fun x => x.f0 != a1 % 4294967296)).length ≤ c.length := List.length_filter_le _ _
    rw [equalc_eq _ _ (by omega) k (by omega), decide_eq_true rfl]
    simp only [Option.bind_some, if_true]
    have hw := With_eq M.good.sorted ⟨a1 % 4294967296, a2_1, a2_2, a2_3⟩ (by omega) k (by omega)
    simp only at hw
    rw [hw]
    simp only [Option.bind_some]
    have hwl : (withA c ⟨a1 % 4294967296, a2_1, a2_2, a2_3⟩).length ≤ c.length + 1 := by
      unfold withA
      have z1 := (List.takeWhile_append_dropWhile (p := fun x : Acc => decide (x.f0 < a1 % 4294967296)) (l := c))
      have z2 := congrArg List.length z1
      have z3 := List.length_filter_le (fun x : Acc => x.f0 != a1 % 4294967296) (c.dropWhile (fun x : Acc => decide (x.f0 < a1 % 4294967296)))
      simp only [List.length_append, List.length_cons, List.length_nil] at z2 ⊢
      omega
    rw [equalc_eq _ _ (by omega) k (by omega), decide_eq_true rfl]
    simp only [Option.bind_some, if_true]
    rw [Moved_eq c _ _ (by omega) k (by omega)]
    simp only [Option.bind_some]
    rw [equalc_eq _ _ (by simp; omega) k (by omega), decide_eq_true rfl]
    simp only [Option.bind_some, if_true]
    rw [equalc_eq _ _ (by omega) k (by omega), decide_eq_true rfl]
    rfl
  · rw [List.drop_zero, go_false]
    rfl
end Go.Proofs.YtckggmblafafjaaGreatDoor.Pure
