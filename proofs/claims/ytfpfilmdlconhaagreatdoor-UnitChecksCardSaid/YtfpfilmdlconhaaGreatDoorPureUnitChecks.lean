/- UnitChecks, as its pure statement. No conditions. -/
import Derived.Test.YtfpfilmdlconhaaGreatDoorXA22
import Derived.Test.YtfpfilmdlconhaaGreatDoorPAwake7
import Derived.Test.YtfpfilmdlconhaaGreatDoorPSort
namespace Go.Proofs.YtfpfilmdlconhaaGreatDoor.Pure
open Go.RowKit Go.Proofs.YtfpfilmdlconhaaGreatDoorW.PrintWords Go.Proofs.YtfpfilmdlconhaaGreatDoorW.PrintLast Go.Proofs.YtfpfilmdlconhaaGreatDoor.XA Go.Proofs.YtfpfilmdlconhaaGreatDoor.PInts
set_option linter.unusedVariables false
set_option linter.unusedSimpArgs false
/-- What goes wrong first, from a place on. -/
def scan (u : List Int) : Nat → Nat → Int
  | 0, _ => 0
  | d + 1, i => if 1 ≤ rd u i ∧ rd u i ≤ 999 then (if 0 < i ∧ rd u ((i : Int) - 1) ≥ rd u i then 6 else scan u d (i + 1)) else 5
theorem check_scan {u : List Int} (hl : u.length ≤ 1000) : ∀ (d i : Nat), d + i = u.length → ∀ k, d < k → unit_Units_Check.l0 k u u (u.length : Int) (i : Int) = some (scan u d i)
  | d, i, h, 0, hk => by omega
  | 0, i, h, k + 1, hk => by
    simp only [unit_Units_Check.l0]
    rw [if_neg (by omega)]
    rfl
  | d + 1, i, h, k + 1, hk => by
    have ih := check_scan hl d (i + 1) (by omega) k (by omega)
    rw [show ((i + 1 : Nat) : Int) = (i : Int) + 1 by omega] at ih
    simp only [unit_Units_Check.l0]
    rw [if_pos (by omega), if_pos (by omega), if_pos (by omega), codeU, w64 (x := (i : Int) + 1) (by omega) (by omega)]
    simp only [Option.bind_some]
    rw [scan]
    by_cases h1 : 1 ≤ rd u i ∧ rd u i ≤ 999
    · rw [if_pos h1, decide_eq_true h1.1, decide_eq_true h1.2, if_pos (show (true && true) = true from rfl)]
      by_cases h0 : 0 < i
      · rw [if_pos (by omega), w64 (by omega) (by omega), if_pos (by omega), if_pos (by omega)]
        by_cases h2 : rd u ((i : Int) - 1) ≥ rd u i
        · rw [if_pos h2, if_pos ⟨h0, h2⟩]
        · rw [if_neg h2, if_neg (fun h => h2 h.2)]
          exact ih
      · rw [if_neg (by omega), if_neg (fun h => h0 h.1)]
        exact ih
    · have hd : (decide (1 ≤ rd u i) && decide (rd u i ≤ 999)) = false := by
        by_cases ha : 1 ≤ rd u i
        · have hb : ¬ rd u i ≤ 999 := fun hb => h1 ⟨ha, hb⟩
          simp [hb]
        · simp [ha]
      rw [if_neg h1, hd, if_neg (by simp)]
theorem check_full {u : List Int} (hl : u.length ≤ 1000) (k : Nat) (hk : 1001 ≤ k) : unit_Units_Check.f k u = some (if u.length > 40 then 2 else scan u u.length 0) := by
  unfold unit_Units_Check.f
  by_cases h : u.length > 40
  · rw [if_pos h, if_pos (by omega)]
  · rw [if_neg h, if_neg (by omega)]
    exact check_scan hl u.length 0 (by omega) k (by omega)
theorem code_tail (n : Int) : ((unit_Code.f n).bind fun t => (if n ≥ 1 then (some (t == (decide (n ≤ 999)))) else (some (t == false)))) = some true := by
  rw [codeU]
  simp only [Option.bind_some]
  by_cases h : n ≥ 1
  · rw [if_pos h, decide_eq_true (show 1 ≤ n from h)]
    simp
  · rw [if_neg h, decide_eq_false (show ¬ 1 ≤ n from h)]
    simp
theorem tail_eq (n : Int) {o : Option Int} {w : Int} (h : o = some w) : (o.bind fun t => (if t = w then ((unit_Code.f n).bind fun t => (if n ≥ 1 then (some (t == (decide (n ≤ 999)))) else (some (t == false)))) else some false)) = some true := by
  subst h
  simp only [Option.bind_some, if_true]
  exact code_tail n
theorem checks_l0 {u : List Int} (n : Int) (hl : u.length ≤ 1000) : ∀ (d i : Nat), d + i = u.length → scan u d i = scan u u.length 0 → ∀ k, 1001 + d < k → transposallaw07_UnitChecks.l0 k n u 0 u (u.length : Int) (i : Int) = some true
  | 0, i, h, hs, k, hk => by
    obtain ⟨k, rfl⟩ : ∃ k', k = k' + 1 := ⟨k - 1, by omega⟩
    have hC := check_full hl k (by omega)
    rw [← hs] at hC
    simp only [transposallaw07_UnitChecks.l0]
    rw [if_neg (by omega)]
    by_cases h40 : u.length > 40
    · rw [if_pos h40] at hC
      rw [if_pos (by omega)]
      exact tail_eq n hC
    · rw [if_neg h40] at hC
      rw [if_neg (by omega)]
      exact tail_eq n hC
  | d + 1, i, h, hs, k, hk => by
    obtain ⟨k, rfl⟩ : ∃ k', k = k' + 1 := ⟨k - 1, by omega⟩
    have hC := check_full hl k (by omega)
    rw [← hs, scan] at hC
    rw [scan] at hs
    simp only [transposallaw07_UnitChecks.l0]
    rw [if_pos (by omega), if_pos (by omega), if_pos (by omega), w64 (x := (i : Int) + 1) (by omega) (by omega), show (i : Int) + 1 = ((i + 1 : Nat) : Int) by omega]
    have fin : ∀ (e : Int), unit_Units_Check.f k u = some (if u.length > 40 then 2 else e) → (if (u.length : Int) > 40 then ((unit_Units_Check.f k u).bind fun t => (if t = 2 then ((unit_Code.f n).bind fun t => (if n ≥ 1 then (some (t == (decide (n ≤ 999)))) else (some (t == false)))) else (some false))) else ((unit_Units_Check.f k u).bind fun t => (if t = e then ((unit_Code.f n).bind fun t => (if n ≥ 1 then (some (t == (decide (n ≤ 999)))) else (some (t == false)))) else (some false)))) = some true := by
      intro e he
      by_cases h40 : u.length > 40
      · rw [if_pos h40] at he
        rw [if_pos (by omega)]
        exact tail_eq n he
      · rw [if_neg h40] at he
        rw [if_neg (by omega)]
        exact tail_eq n he
    by_cases h1 : 1 ≤ rd u i ∧ rd u i ≤ 999
    · rw [if_pos h1] at hs hC
      rw [if_neg (by omega), if_neg (by omega)]
      by_cases h0 : 0 < i
      · rw [if_pos (by omega), w64 (by omega) (by omega), if_pos (by omega), if_pos (by omega)]
        by_cases h2 : rd u ((i : Int) - 1) ≥ rd u i
        · rw [show (if 0 < i ∧ rd u ((i : Int) - 1) ≥ rd u i then (6 : Int) else scan u d (i + 1)) = 6 from if_pos ⟨h0, h2⟩] at hC
          rw [if_pos h2]
          exact fin 6 hC
        · rw [if_neg (fun h => h2 h.2)] at hs
          rw [if_neg h2]
          exact checks_l0 n hl d (i + 1) (by omega) hs k (by omega)
      · rw [if_neg (fun h => h0 h.1)] at hs
        rw [if_neg (by omega)]
        exact checks_l0 n hl d (i + 1) (by omega) hs k (by omega)
    · rw [if_neg h1] at hC
      by_cases ha : rd u i < 1
      · rw [if_pos ha]
        exact fin 5 hC
      · rw [if_neg ha, if_pos (by omega)]
        exact fin 5 hC
theorem checks_l1 {u : List Int} (n : Int) (hl : u.length ≤ 1000) : ∀ (d i : Nat), d + i = u.length → scan u d i = scan u u.length 0 → ∀ k, 1001 + d < k → transposallaw07_UnitChecks.l1 k n u 0 u (u.length : Int) (i : Int) = some true
  | 0, i, h, hs, k, hk => by
    obtain ⟨k, rfl⟩ : ∃ k', k = k' + 1 := ⟨k - 1, by omega⟩
    have hC := check_full hl k (by omega)
    rw [← hs] at hC
    simp only [transposallaw07_UnitChecks.l1]
    rw [if_neg (by omega)]
    by_cases h40 : u.length > 40
    · rw [if_pos h40] at hC
      rw [if_pos (by omega)]
      exact tail_eq n hC
    · rw [if_neg h40] at hC
      rw [if_neg (by omega)]
      exact tail_eq n hC
  | d + 1, i, h, hs, k, hk => by
    obtain ⟨k, rfl⟩ : ∃ k', k = k' + 1 := ⟨k - 1, by omega⟩
    have hC := check_full hl k (by omega)
    rw [← hs, scan] at hC
    rw [scan] at hs
    simp only [transposallaw07_UnitChecks.l1]
    rw [if_pos (by omega), if_pos (by omega), if_pos (by omega), w64 (x := (i : Int) + 1) (by omega) (by omega), show (i : Int) + 1 = ((i + 1 : Nat) : Int) by omega]
    have fin : ∀ (e : Int), unit_Units_Check.f k u = some (if u.length > 40 then 2 else e) → (if (u.length : Int) > 40 then ((unit_Units_Check.f k u).bind fun t => (if t = 2 then ((unit_Code.f n).bind fun t => (if n ≥ 1 then (some (t == (decide (n ≤ 999)))) else (some (t == false)))) else (some false))) else ((unit_Units_Check.f k u).bind fun t => (if t = e then ((unit_Code.f n).bind fun t => (if n ≥ 1 then (some (t == (decide (n ≤ 999)))) else (some (t == false)))) else (some false)))) = some true := by
      intro e he
      by_cases h40 : u.length > 40
      · rw [if_pos h40] at he
        rw [if_pos (by omega)]
        exact tail_eq n he
      · rw [if_neg h40] at he
        rw [if_neg (by omega)]
        exact tail_eq n he
    by_cases h1 : 1 ≤ rd u i ∧ rd u i ≤ 999
    · rw [if_pos h1] at hs hC
      rw [if_neg (by omega), if_neg (by omega)]
      by_cases h0 : 0 < i
      · rw [if_pos (by omega), w64 (by omega) (by omega), if_pos (by omega), if_pos (by omega)]
        by_cases h2 : rd u ((i : Int) - 1) ≥ rd u i
        · rw [show (if 0 < i ∧ rd u ((i : Int) - 1) ≥ rd u i then (6 : Int) else scan u d (i + 1)) = 6 from if_pos ⟨h0, h2⟩] at hC
          rw [if_pos h2]
          exact fin 6 hC
        · rw [if_neg (fun h => h2 h.2)] at hs
          rw [if_neg h2]
          exact checks_l1 n hl d (i + 1) (by omega) hs k (by omega)
      · rw [if_neg (fun h => h0 h.1)] at hs
        rw [if_neg (by omega)]
        exact checks_l1 n hl d (i + 1) (by omega) hs k (by omega)
    · rw [if_neg h1] at hC
      by_cases ha : rd u i < 1
      · rw [if_pos ha]
        exact fin 5 hC
      · rw [if_neg ha, if_pos (by omega)]
        exact fin 5 hC
theorem UnitChecks : transposallaw07_UnitChecks.Pure := by
  intro l0 a1 a2 h1 _ h2 h3
  obtain ⟨K, hK⟩ : ∃ K : Nat, 60000 ≤ K := ⟨60000, Nat.le_refl _⟩
  refine ⟨K, ?_⟩
  unfold transposallaw07_UnitChecks.f
  rw [awake7 K (by omega)]
  simp only [Option.bind_some, if_true]
  by_cases e0 : (l0.length : Int) > 60
  · rw [if_pos e0]
  rw [if_neg e0]
  cases a2
  · rw [if_neg (by simp)]
    exact checks_l1 a1 (by omega) l0.length 0 (by omega) rfl K (by omega)
  · obtain ⟨r, r1, r2, r3, r4, r5⟩ := makeU_eq h1 h2
    rw [if_pos rfl, r5 K (by omega)]
    simp only [Option.bind_some]
    rw [if_pos (by omega)]
    have hl : (r ++ [a1]).length ≤ 1000 := by simp; omega
    exact checks_l0 a1 hl (r ++ [a1]).length 0 (by omega) rfl K (by omega)
end Go.Proofs.YtfpfilmdlconhaaGreatDoor.Pure
