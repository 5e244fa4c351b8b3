/- ChartTree, as its pure statement. No conditions. -/
import Derived.Test.YtnbdcpgaceongaaGreatDoorXA11
import Derived.Test.YtnbdcpgaceongaaGreatDoorPAwake6
namespace Go.Proofs.YtnbdcpgaceongaaGreatDoor.Pure
open Go.RowKit Go.Proofs.YtnbdcpgaceongaaGreatDoorW.PrintWords Go.Proofs.YtnbdcpgaceongaaGreatDoorW.PrintLast Go.Proofs.YtnbdcpgaceongaaGreatDoor.XA Go.Proofs.YtnbdcpgaceongaaGreatDoor.ChartMath Go.Proofs.YtnbdcpgaceongaaGreatDoor.PChart
set_option linter.unusedVariables false
set_option linter.unusedSimpArgs false
section
variable {c : List Acc} (M : Made c)
include M
omit M in
theorem tree_j4 (k i n : Nat) (a : Acc) (q : Bool) (hq : q = false) (r : Option Bool) (hn : n ≤ 40) (h : transposallaw06_ChartTree.l1 k c c (c.length : Int) (i : Int) c (c.length : Int) ((n + 1 : Nat) : Int) a.f0 a.f1 a.f2 a.f3 = r) :
    transposallaw06_ChartTree.j4 (k + 1) c c (c.length : Int) (i : Int) c (c.length : Int) (n : Int) q a.f0 a.f1 a.f2 a.f3 = r := by
  subst hq
  simp only [transposallaw06_ChartTree.j4]
  rw [if_neg (by simp), PChart.w64 (by omega) (by omega)]
  exact h
theorem tree_j3 (k i n : Nat) (hk : 300 ≤ k) (a b : Acc) (ha : a ∈ c) (hb : b ∈ c) (q : Bool) (hq : q = false) (r : Option Bool) (hn : n ≤ 40) (h : transposallaw06_ChartTree.l1 k c c (c.length : Int) (i : Int) c (c.length : Int) ((n + 1 : Nat) : Int) a.f0 a.f1 a.f2 a.f3 = r) :
    transposallaw06_ChartTree.j3 (k + 2) c c (c.length : Int) (i : Int) c (c.length : Int) (n : Int) q a.f0 a.f1 a.f2 a.f3 b.f0 b.f1 b.f2 b.f3 = r := by
  have hl := M.len
  subst hq
  simp only [transposallaw06_ChartTree.j3]
  rw [if_neg (by simp)]
  by_cases e : a.f0 = b.f0
  · rw [if_pos e]
    exact tree_j4 k i n a false rfl r hn h
  · rw [if_neg e, Within_eq M.good.sorted _ _ (by omega) (k + 1) (by omega), Within_eq M.good.sorted _ _ (by omega) (k + 1) (by omega)]
    have hs := step_in M.good ha (n := b.f0) (fun h => e h.symm)
    simp only [Option.bind_some]
    by_cases h0 : a.f3 = 0
    · rw [if_pos h0]
      have : decide (b.f0 ∈ way c 13 a.f0) = false := by rw [decide_eq_false_iff_not, hs]; exact fun h => h.1 h0
      rw [this]
      exact tree_j4 k i n a _ rfl r hn h
    · rw [if_neg h0]
      have : decide (b.f0 ∈ way c 13 a.f0) = decide (b.f0 ∈ way c 13 a.f3) := by
        apply decide_eq_decide.2
        rw [hs]
        exact ⟨fun h => h.2, fun h => ⟨h0, h⟩⟩
      rw [this]
      exact tree_j4 k i n a _ (by simp) r hn h
theorem tree_l1 (i : Nat) (a : Acc) (ha : a ∈ c) (r : Option Bool) (N : Nat) (hr : ∀ k, N ≤ k → transposallaw06_ChartTree.l0 k c c (c.length : Int) ((i + 1 : Nat) : Int) = r) (hi : i ≤ 40) :
    ∀ (d n : Nat), d + n = c.length → ∀ k, N + 400 + 3 * d ≤ k → transposallaw06_ChartTree.l1 k c c (c.length : Int) (i : Int) c (c.length : Int) (n : Int) a.f0 a.f1 a.f2 a.f3 = r := by
  have hl := M.len
  intro d
  induction d with
  | zero =>
    intro n hn k hk
    obtain ⟨k, rfl⟩ : ∃ k', k = k' + 1 := ⟨k - 1, by omega⟩
    simp only [transposallaw06_ChartTree.l1]
    rw [if_neg (by omega), PChart.w64 (by omega) (by omega)]
    exact hr k (by omega)
  | succ d ih =>
    intro n hn k hk
    obtain ⟨k, rfl⟩ : ∃ k', k = k' + 3 := ⟨k - 3, by omega⟩
    have hnc : n < c.length := by omega
    have e := rdA_get hnc
    unfold rdA at e
    have hb := List.getElem_mem hnc
    have fin := ih (n + 1) (by omega) k (by omega)
    have J : ∀ q, q = false → transposallaw06_ChartTree.j3 (k + 2) c c (c.length : Int) (i : Int) c (c.length : Int) (n : Int) q a.f0 a.f1 a.f2 a.f3 c[n].f0 c[n].f1 c[n].f2 c[n].f3 = r := fun q hq => tree_j3 M k i n (by omega) a c[n] ha hb q hq r (by omega) fin
    have W : ∀ x y, chart_Chart_Within.f (k + 2) c x y = some (decide (y ∈ way c 13 x)) := fun x y => Within_eq M.good.sorted _ _ (by omega) (k + 2) (by omega)
    have K := kind_in M.good ha hb
    have B := both_in M.good ha hb
    simp only [transposallaw06_ChartTree.l1]
    rw [if_pos (by omega), if_pos (by omega), if_pos (by omega), e]
    simp only [W, Option.bind_some]
    by_cases h1 : c[n].f0 ∈ way c 13 a.f0
    · rw [if_pos (by simp [h1]), if_pos (K h1), if_pos (by simp [h1])]
      by_cases h2 : a.f0 ∈ way c 13 c[n].f0
      · rw [if_pos (by simp [h2])]
        exact J _ (by simp [B h1 h2])
      · rw [if_neg (by simp [h2])]
        exact J _ rfl
    · rw [if_neg (by simp [h1]), if_neg (by simp [h1])]
      exact J _ rfl
theorem tree_l0 : ∀ (d n : Nat), d + n = c.length → ∀ k, (d + 1) * 1000 ≤ k → transposallaw06_ChartTree.l0 k c c (c.length : Int) (n : Int) = some true := by
  have hl := M.len
  intro d
  induction d with
  | zero =>
    intro n hn k hk
    obtain ⟨k, rfl⟩ : ∃ k', k = k' + 1 := ⟨k - 1, by omega⟩
    simp only [transposallaw06_ChartTree.l0]
    rw [if_neg (by omega)]
  | succ d ih =>
    intro n hn k hk
    obtain ⟨k, rfl⟩ : ∃ k', k = k' + 2 := ⟨k - 2, by omega⟩
    have hnc : n < c.length := by omega
    have e := rdA_get hnc
    unfold rdA at e
    have ha := List.getElem_mem hnc
    have W : ∀ x y, chart_Chart_Within.f (k + 1) c x y = some (decide (y ∈ way c 13 x)) := fun x y => Within_eq M.good.sorted _ _ (by omega) (k + 1) (by omega)
    have J : ∀ q, q = false → transposallaw06_ChartTree.j1 (k + 1) c c (c.length : Int) (n : Int) q c[n].f0 c[n].f1 c[n].f2 c[n].f3 = some true := by
      rintro q rfl
      simp only [transposallaw06_ChartTree.j1]
      rw [if_neg (by simp)]
      obtain ⟨B, hB⟩ : ∃ B, B = (d + 1) * 1000 := ⟨_, rfl⟩
      have g1 : ∀ k', B ≤ k' → transposallaw06_ChartTree.l0 k' c c (c.length : Int) ((n + 1 : Nat) : Int) = some true := fun k' hk' => ih (n + 1) (by omega) k' (by rw [← hB]; exact hk')
      have g2 : B + 400 + 3 * c.length ≤ k := by omega
      have z := tree_l1 M n c[n] ha (some true) B g1 (by omega) c.length 0 rfl k g2
      rw [show ((0 : Nat) : Int) = 0 from rfl] at z
      exact z
    simp only [transposallaw06_ChartTree.l0]
    rw [if_pos (by omega), if_pos (by omega), if_pos (by omega), e]
    simp only [W, Option.bind_some]
    rw [if_pos (by simp [self_in M.good ha])]
    by_cases h0 : c[n].f3 = 0
    · rw [if_pos h0]
      exact J _ rfl
    · rw [if_neg h0]
      obtain ⟨p1, p2⟩ := parent_in M.good ha h0
      rw [if_pos (by simp [p1])]
      exact J _ (by simp [p2])
end
theorem ChartTree : transposallaw06_ChartTree.Pure := by
  intro l0 h1 h2
  obtain ⟨c, M, hc⟩ := make_eq h1 h2
  obtain ⟨K, hK⟩ : ∃ K : Nat, 60000 ≤ K := ⟨60000, Nat.le_refl _⟩
  refine ⟨K, ?_⟩
  unfold transposallaw06_ChartTree.f
  rw [awake6 K (by omega)]
  simp only [Option.bind_some, if_true]
  rw [hc K (by omega)]
  simp only [Option.bind_some]
  have hl := M.len
  have z := tree_l0 M c.length 0 (by omega) K (by omega)
  rw [show ((0 : Nat) : Int) = 0 from rfl] at z
  exact z
end Go.Proofs.YtnbdcpgaceongaaGreatDoor.Pure
