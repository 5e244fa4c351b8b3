/- ChartFinds, as its pure statement. No conditions. -/
import Derived.Test.YtnbdcpgaceongaaGreatDoorXA12
import Derived.Test.YtnbdcpgaceongaaGreatDoorPAwake6
namespace Go.Proofs.YtnbdcpgaceongaaGreatDoor.Pure
open Go.RowKit Go.Proofs.YtnbdcpgaceongaaGreatDoorW.PrintWords Go.Proofs.YtnbdcpgaceongaaGreatDoorW.PrintLast Go.Proofs.YtnbdcpgaceongaaGreatDoor.XA Go.Proofs.YtnbdcpgaceongaaGreatDoor.ChartMath Go.Proofs.YtnbdcpgaceongaaGreatDoor.PChart
set_option linter.unusedVariables false
set_option linter.unusedSimpArgs false
def kids (c : List Acc) (n : Int) : List Int := (c.filter (fun a => a.f3 == n)).map (fun a => a.f0)
theorem kids_len (c : List Acc) (n : Int) : (kids c n).length ≤ c.length := by
  unfold kids
  rw [List.length_map]
  exact List.length_filter_le _ _
theorem kids_go (c : List Acc) (n : Int) (hc : c.length ≤ 100) : ∀ (d i : Nat), d + i = c.length → ∀ (o : List Int), o.length ≤ i → ∀ k, d < k → chart_Chart_Kids.l0 k n o c (c.length : Int) (i : Int) = some (o ++ kids (c.drop i) n) := by
  intro d
  induction d with
  | zero =>
    intro i h o ho k hk
    obtain ⟨k, rfl⟩ : ∃ k', k = k' + 1 := ⟨k - 1, by omega⟩
    simp only [chart_Chart_Kids.l0]
    rw [if_neg (by omega), List.drop_eq_nil_of_le (by omega)]
    simp [kids]
  | succ d ih =>
    intro i h o ho k hk
    obtain ⟨k, rfl⟩ : ∃ k', k = k' + 1 := ⟨k - 1, by omega⟩
    have hi : i < c.length := by omega
    have e := rdA_get hi
    unfold rdA at e
    simp only [chart_Chart_Kids.l0]
    rw [if_pos (by omega), if_pos (by omega), if_pos (by omega), e, PChart.w64 (by omega) (by omega), List.drop_eq_getElem_cons hi]
    by_cases h1 : c[i].f3 = n
    · rw [if_pos h1, if_pos (by omega)]
      have z := ih (i + 1) (by omega) (o ++ [c[i].f0]) (by simp; omega) k (by omega)
      rw [show ((i : Int) + 1) = ((i + 1 : Nat) : Int) by omega, z]
      simp only [kids, List.filter_cons, h1, beq_self_eq_true, if_true, List.map_cons, List.append_assoc, List.singleton_append]
    · rw [if_neg h1]
      have z := ih (i + 1) (by omega) o (by omega) k (by omega)
      rw [show ((i : Int) + 1) = ((i + 1 : Nat) : Int) by omega, z]
      have h2 : (c[i].f3 == n) = false := by simpa using h1
      simp only [kids, List.filter_cons, h2]
      simp
theorem Kids_eq {c : List Acc} (n : Int) (hc : c.length ≤ 100) (k : Nat) (hk : 200 ≤ k) : chart_Chart_Kids.f k c n = some (kids c n) := by
  have z := kids_go c n hc c.length 0 (by omega) [] (by simp) k (by omega)
  rw [show ((0 : Nat) : Int) = 0 from rfl] at z
  unfold chart_Chart_Kids.f
  rw [z]
  simp
def less (c : List Acc) (n : Int) : Nat := (c.filter (fun a => decide (a.f0 < n))).length
theorem less_at {c : List Acc} {n : Int} : ∀ {i : Nat}, At c n i → less c n = i := by
  induction c with
  | nil =>
    intro i h
    obtain ⟨h1, _, _⟩ := h
    simp [less] at *
    omega
  | cons a t ih =>
    intro i h
    obtain ⟨h1, h2, h3⟩ := h
    cases i with
    | zero =>
      have hz : ∀ b ∈ a :: t, ¬ b.f0 < n := by
        intro b hb
        obtain ⟨j, hj, rfl⟩ := List.getElem_of_mem hb
        have := h3 j hj (by omega)
        omega
      unfold less
      rw [List.filter_eq_nil_iff.2 (by simpa using hz)]
      rfl
    | succ i =>
      have ha := h2 0 (by simp) (by omega)
      simp at ha
      have := ih (i := i) ⟨by simp at h1; exact h1, fun j hj hji => by
        have := h2 (j + 1) (by simp; exact hj) (by omega)
        simpa using this, fun j hj hji => by
        have := h3 (j + 1) (by simp; exact hj) (by omega)
        simpa using this⟩
      unfold less at *
      rw [List.filter_cons, if_pos (by simpa using ha), List.length_cons, this]
theorem finds_go {c : List Acc} (M : Made c) (n a2 : Int) (q : Bool) (g : Option Acc) (hg : g = find c n) (hq : q = g.isSome) (bt : Int) (hbt : bt = (less c n : Int)) :
    ∀ (d i : Nat), d + i = c.length → ∀ (o : List Int) (s : Nat), s ≤ i → o.length ≤ i → s + less (c.drop i) n = less c n → o ++ kids (c.drop i) n = kids c n → ∀ k, 400 + d < k →
      transposallaw06_ChartFinds.l0 k c n a2 bt q q q (s : Int) o c (c.length : Int) (i : Int) (row g).1 (row g).2.1 (row g).2.2.1 (row g).2.2.2.1 (row g).1 (row g).2.1 (row g).2.2.1 (row g).2.2.2.1 = some true := by
  have hl := M.len
  intro d
  induction d with
  | zero =>
    intro i h o s hs ho h1 h2 k hk
    obtain ⟨k, rfl⟩ : ∃ k', k = k' + 1 := ⟨k - 1, by omega⟩
    rw [List.drop_eq_nil_of_le (by omega)] at h1 h2
    simp only [less, kids, List.filter_nil, List.length_nil, List.map_nil, List.append_nil, Nat.add_zero] at h1 h2
    have h1' : (s : Int) = bt := by rw [hbt, h1]; rfl
    have hlen : o.length ≤ 100 := by omega
    simp only [transposallaw06_ChartFinds.l0]
    rw [if_neg (by omega), lawway_eq n (by omega) k (by omega)]
    simp only [Option.bind_some]
    rw [if_pos h1'.symm, if_pos (by simp), if_pos (by simp), if_pos (by simp), Way_eq M.good.sorted n (by omega) k (by omega)]
    simp only [Option.bind_some]
    have wl := way_length c 13 n
    rw [equal_eq _ _ (by omega) k (by omega)]
    simp only [Option.bind_some]
    rw [if_pos (by simp), Within_eq M.good.sorted n a2 (by omega) k (by omega), contains_eq a2 (by omega) k (by omega)]
    simp only [Option.bind_some]
    rw [if_pos (by simp), Kids_eq n (by omega) k (by omega)]
    simp only [Option.bind_some]
    have kl := kids_len c n
    rw [equal_eq _ _ (by omega) k (by omega)]
    simp only [Option.bind_some]
    rw [h2]
    simp [kids]
  | succ d ih =>
    intro i h o s hs ho h1 h2 k hk
    obtain ⟨k, rfl⟩ : ∃ k', k = k' + 1 := ⟨k - 1, by omega⟩
    have hi : i < c.length := by omega
    have e := rdA_get hi
    unfold rdA at e
    rw [List.drop_eq_getElem_cons hi] at h1 h2
    simp only [transposallaw06_ChartFinds.l0]
    rw [if_pos (by omega), if_pos (by omega), if_pos (by omega), e, PChart.w64 (x := (i : Int) + 1) (by omega) (by omega), PChart.w64 (x := (s : Int) + 1) (by omega) (by omega)]
    have E1 : ((i : Int) + 1) = ((i + 1 : Nat) : Int) := by omega
    have E2 : ((s : Int) + 1) = ((s + 1 : Nat) : Int) := by omega
    rw [E1, E2]
    by_cases c1 : c[i].f0 < n
    · have k1 : s + 1 + less (c.drop (i + 1)) n = less c n := by
        rw [← h1]
        unfold less
        rw [List.filter_cons, if_pos (by simpa using c1), List.length_cons]
        omega
      rw [if_pos c1]
      by_cases c2 : c[i].f3 = n
      · have k2 : (o ++ [c[i].f0]) ++ kids (c.drop (i + 1)) n = kids c n := by
          rw [← h2]
          simp only [kids, List.filter_cons, c2, beq_self_eq_true, if_true, List.map_cons, List.append_assoc, List.singleton_append]
        rw [if_pos c2, if_pos (by omega)]
        exact ih (i + 1) (by omega) _ _ (by omega) (by simp; omega) k1 k2 k (by omega)
      · have k2 : o ++ kids (c.drop (i + 1)) n = kids c n := by
          rw [← h2]
          have h2 : (c[i].f3 == n) = false := by simpa using c2
          simp only [kids, List.filter_cons, h2]
          simp
        rw [if_neg c2]
        exact ih (i + 1) (by omega) _ _ (by omega) (by omega) k1 k2 k (by omega)
    · have k1 : s + less (c.drop (i + 1)) n = less c n := by
        rw [← h1]
        unfold less
        rw [List.filter_cons, if_neg (by simpa using c1)]
      rw [if_neg c1]
      by_cases c2 : c[i].f3 = n
      · have k2 : (o ++ [c[i].f0]) ++ kids (c.drop (i + 1)) n = kids c n := by
          rw [← h2]
          simp only [kids, List.filter_cons, c2, beq_self_eq_true, if_true, List.map_cons, List.append_assoc, List.singleton_append]
        rw [if_pos c2, if_pos (by omega)]
        exact ih (i + 1) (by omega) _ _ (by omega) (by simp; omega) k1 k2 k (by omega)
      · have k2 : o ++ kids (c.drop (i + 1)) n = kids c n := by
          rw [← h2]
          have h2 : (c[i].f3 == n) = false := by simpa using c2
          simp only [kids, List.filter_cons, h2]
          simp
        rw [if_neg c2]
        exact ih (i + 1) (by omega) _ _ (by omega) (by omega) k1 k2 k (by omega)
theorem ChartFinds : transposallaw06_ChartFinds.Pure := by
  intro l0 a1 a2 h1 h2 b1 b2
  obtain ⟨c, M, hc⟩ := make_eq h1 h2
  have hl := M.len
  obtain ⟨n, hn⟩ : ∃ n, n = a1 % 4294967296 := ⟨_, rfl⟩
  obtain ⟨i, hA, hi⟩ := bin_eq M.good.sorted n (by omega)
  obtain ⟨f1, f2⟩ := hit_find M.good.sorted hA
  obtain ⟨K, hK⟩ : ∃ K : Nat, 60000 ≤ K := ⟨60000, Nat.le_refl _⟩
  refine ⟨K, ?_⟩
  unfold transposallaw06_ChartFinds.f
  rw [awake6 K (by omega)]
  simp only [Option.bind_some, if_true]
  rw [hc K (by omega)]
  simp only [Option.bind_some]
  rw [← hn, hi K (by omega), Get_eq M.good.sorted n (by omega) K (by omega), get_eq n (by omega) K (by omega)]
  simp only [Option.bind_some]
  have hh : hit c n i = (find c n).isSome := by
    cases hq : hit c n i with
    | true =>
      obtain ⟨_, e⟩ := f1 hq
      rw [e]
      rfl
    | false => rw [f2 hq]; rfl
  have hr : (row (find c n)).2.2.2.2 = (find c n).isSome := by cases find c n <;> rfl
  rw [hh, hr]
  have z := finds_go M n (a2 % 4294967296) (find c n).isSome (find c n) rfl rfl (i : Int) (by rw [less_at hA]) c.length 0 (by omega) [] 0 (by omega) (by simp) (by simp) (by simp) K (by omega)
  rw [show ((0 : Nat) : Int) = 0 from rfl] at z
  exact z
end Go.Proofs.YtnbdcpgaceongaaGreatDoor.Pure
