/- Sorting a few whole numbers; the law's entities; without one. -/
import Derived.Test.YtddaogebacigbaaGreatDoorXA0
import Derived.Test.YtddaogebacigbaaGreatDoorXA4
import Derived.Test.YtddaogebacigbaaGreatDoorXA5
import Derived.Test.YtddaogebacigbaaGreatDoorPInts
namespace Go.Proofs.YtddaogebacigbaaGreatDoor.PInts
open Go.RowKit Go.Proofs.YtddaogebacigbaaGreatDoorW.PrintWords Go.Proofs.YtddaogebacigbaaGreatDoorW.PrintLast Go.Proofs.YtddaogebacigbaaGreatDoor.XA
set_option linter.unusedVariables false
set_option linter.unusedSimpArgs false
/-! ### sorting -/
theorem sort_go (l : List Int) (hl : l.length ≤ 12) : ∀ (d : Nat) (i j : Nat) (x : List Int), x.Perm l → i < l.length → j ≤ i → (∀ p q, p < q → q ≤ i → p ≠ j → q ≠ j → x.getD p 0 ≤ x.getD q 0) → (∀ q, j < q → q ≤ i → x.getD j 0 ≤ x.getD q 0) →
    14 * (l.length - i) + j ≤ d → ∃ r : List Int, r.Perm l ∧ r.Pairwise (· ≤ ·) ∧ ∀ k, 2 * d + 2 < k → slices_insertionSortOrdered_uint16.l1 k x 0 (l.length : Int) (i : Int) (j : Int) = some r := by
  intro d
  induction d with
  | zero =>
    intro i j x hp hi hj I1 I2 hd
    omega
  | succ d ih =>
    intro i j x hp hi hj I1 I2 hd
    have hxl := hp.length_eq
    -- the round's end: one more is in order
    have next : (∀ p q, p < q → q ≤ i → x.getD p 0 ≤ x.getD q 0) → ∃ r : List Int, r.Perm l ∧ r.Pairwise (· ≤ ·) ∧ ∀ k, 2 * d + 3 < k → slices_insertionSortOrdered_uint16.l0 k x 0 (l.length : Int) (wrap64 ((i : Int) + 1)) = some r := by
      intro hs
      rw [w64 (by omega) (by omega)]
      by_cases hi2 : i + 1 < l.length
      · obtain ⟨r, r1, r2, r3⟩ := ih (i + 1) (i + 1) x hp hi2 (Nat.le_refl _) (fun p q hpq hq _ hqn => hs p q hpq (by omega)) (fun q h1 h2 => by omega) (by omega)
        refine ⟨r, r1, r2, fun k hk => ?_⟩
        obtain ⟨k, rfl⟩ : ∃ k', k = k' + 1 := ⟨k - 1, by omega⟩
        simp only [slices_insertionSortOrdered_uint16.l0]
        rw [if_pos (by omega), show (i : Int) + 1 = ((i + 1 : Nat) : Int) by omega]
        exact r3 k (by omega)
      · refine ⟨x, hp, ?_, fun k hk => ?_⟩
        · rw [List.pairwise_iff_getElem]
          intro p q h1 h2 hpq
          have := hs p q hpq (by omega)
          rw [List.getD_eq_getElem?_getD, List.getD_eq_getElem?_getD, List.getElem?_eq_getElem h1, List.getElem?_eq_getElem h2] at this
          exact this
        · obtain ⟨k, rfl⟩ : ∃ k', k = k' + 1 := ⟨k - 1, by omega⟩
          simp only [slices_insertionSortOrdered_uint16.l0]
          rw [if_neg (by omega)]
    by_cases hj0 : j = 0
    · subst hj0
      obtain ⟨r, r1, r2, r3⟩ := next (fun p q hpq hq => by
        by_cases h0 : p = 0
        · subst h0
          exact I2 q (by omega) hq
        · exact I1 p q hpq hq h0 (by omega))
      refine ⟨r, r1, r2, fun k hk => ?_⟩
      obtain ⟨k, rfl⟩ : ∃ k', k = k' + 1 := ⟨k - 1, by omega⟩
      simp only [slices_insertionSortOrdered_uint16.l1]
      rw [if_neg (by omega)]
      exact r3 k (by omega)
    · have hjx : j < x.length := by omega
      have hjx1 : j - 1 < x.length := by omega
      have g0 : x.getD j 0 = x[j] := by rw [List.getD_eq_getElem?_getD, List.getElem?_eq_getElem hjx]; rfl
      have g1 : x.getD (j - 1) 0 = x[j - 1] := by rw [List.getD_eq_getElem?_getD, List.getElem?_eq_getElem hjx1]; rfl
      have hw : wrap64 ((j : Int) - 1) = ((j - 1 : Nat) : Int) := by rw [w64 (by omega) (by omega)]; omega
      have unf : ∀ k, slices_insertionSortOrdered_uint16.l1 (k + 1) x 0 (l.length : Int) (i : Int) (j : Int) = (if decide (x[j] < x[j - 1]) = true then slices_insertionSortOrdered_uint16.l1 k ((x.set j x[j - 1]).set (j - 1) x[j]) 0 (l.length : Int) (i : Int) ((j - 1 : Nat) : Int) else slices_insertionSortOrdered_uint16.l0 k x 0 (l.length : Int) (wrap64 ((i : Int) + 1))) := by
        intro k
        simp only [slices_insertionSortOrdered_uint16.l1]
        rw [if_pos (by omega), if_pos (by omega), if_pos (by omega), hw, if_pos (by omega), if_pos (by omega), rd_get hjx, rd_get hjx1, cmp_Less_uint16_eq]
        simp only [Option.bind_some, Int.toNat_natCast]
      by_cases hlt : x[j] < x[j - 1]
      · have hp' : ((x.set j x[j - 1]).set (j - 1) x[j]).Perm l := (List.set_set_perm hjx hjx1).trans hp
        have gs : ∀ p, ((x.set j x[j - 1]).set (j - 1) x[j]).getD p 0 = if p = j - 1 then x[j] else if p = j then x[j - 1] else x.getD p 0 := by
          intro p
          rw [List.getD_eq_getElem?_getD]
          by_cases h1 : p = j - 1
          · rw [if_pos h1, h1, List.getElem?_set_self (by simpa using hjx1)]
            rfl
          · rw [if_neg h1, List.getElem?_set_ne (by omega)]
            by_cases h2 : p = j
            · rw [if_pos h2, h2, List.getElem?_set_self hjx]
              rfl
            · rw [if_neg h2, List.getElem?_set_ne (by omega), List.getD_eq_getElem?_getD]
        obtain ⟨r, r1, r2, r3⟩ := ih i (j - 1) _ hp' hi (by omega) (fun p q hpq hq h1 h2 => by
          rw [gs p, gs q, if_neg h1, if_neg h2]
          by_cases h3 : p = j
          · rw [if_pos h3, if_neg (by omega)]
            rw [← g1]
            exact I1 (j - 1) q (by omega) hq (by omega) (by omega)
          · rw [if_neg h3]
            by_cases h4 : q = j
            · rw [if_pos h4, ← g1]
              exact I1 p (j - 1) (by omega) (by omega) (by omega) (by omega)
            · rw [if_neg h4]
              exact I1 p q hpq hq h3 h4) (fun q h1 h2 => by
          rw [gs (j - 1), gs q, if_pos rfl, if_neg (by omega)]
          by_cases h3 : q = j
          · rw [if_pos h3]
            omega
          · rw [if_neg h3, ← g0]
            exact I2 q (by omega) h2) (by omega)
        refine ⟨r, r1, r2, fun k hk => ?_⟩
        obtain ⟨k, rfl⟩ : ∃ k', k = k' + 1 := ⟨k - 1, by omega⟩
        rw [unf k, if_pos (decide_eq_true hlt)]
        exact r3 k (by omega)
      · obtain ⟨r, r1, r2, r3⟩ := next (fun p q hpq hq => by
          by_cases h1 : p = j
          · subst h1
            exact I2 q hpq hq
          · by_cases h2 : q = j
            · subst h2
              by_cases h3 : p = q - 1
              · subst h3
                rw [g0, g1]
                omega
              · have := I1 p (q - 1) (by omega) (by omega) h1 (by omega)
                rw [g0]
                rw [g1] at this
                omega
            · exact I1 p q hpq hq h1 h2)
        refine ⟨r, r1, r2, fun k hk => ?_⟩
        obtain ⟨k, rfl⟩ : ∃ k', k = k' + 1 := ⟨k - 1, by omega⟩
        rw [unf k, if_neg (by simpa using hlt)]
        exact r3 k (by omega)
theorem Sort_eq (l : List Int) (hl : l.length ≤ 12) : ∃ r : List Int, r.Perm l ∧ r.Pairwise (· ≤ ·) ∧ ∀ k, 1001 ≤ k → unit_Units_uint16_79.f k l = some r := by
  have fin : ∀ r, (∀ k, 900 ≤ k → slices_insertionSortOrdered_uint16.f k l 0 (l.length : Int) = some r) → ∀ k, 1001 ≤ k → unit_Units_uint16_79.f k l = some r := by
    intro r hr k hk
    unfold unit_Units_uint16_79.f bits_Len.f
    have hw : IntKind.u64.wrap (l.length : Int) = (l.length : Int) := by
      show (l.length : Int) % 18446744073709551616 = _
      omega
    rw [hw, if_pos (by omega), if_pos (by omega)]
    simp only [Option.bind_some]
    unfold slices_pdqsortOrdered_uint16.f
    rw [if_pos rfl, if_pos (by omega), if_pos (by omega), hr k (by omega)]
    rfl
  by_cases h : 1 < l.length
  · obtain ⟨r, r1, r2, r3⟩ := sort_go l hl (14 * l.length) 1 1 l (List.Perm.refl _) h (Nat.le_refl _) (fun p q h1 h2 h3 h4 => by omega) (fun q h1 h2 => by omega) (by omega)
    refine ⟨r, r1, r2, fin r (fun k hk => ?_)⟩
    unfold slices_insertionSortOrdered_uint16.f
    obtain ⟨k, rfl⟩ : ∃ k', k = k' + 1 := ⟨k - 1, by omega⟩
    rw [w64 (by omega) (by omega)]
    simp only [slices_insertionSortOrdered_uint16.l0]
    rw [if_pos (by omega)]
    exact r3 k (by omega)
  · refine ⟨l, List.Perm.refl _, ?_, fin l (fun k hk => ?_)⟩
    · cases l with
      | nil => exact List.Pairwise.nil
      | cons a t =>
        cases t with
        | nil => exact List.pairwise_singleton _ _
        | cons b t => exact absurd (by simp) h
    · unfold slices_insertionSortOrdered_uint16.f
      obtain ⟨k, rfl⟩ : ∃ k', k = k' + 1 := ⟨k - 1, by omega⟩
      rw [w64 (by omega) (by omega)]
      simp only [slices_insertionSortOrdered_uint16.l0]
      rw [if_neg (by omega)]
/-! ### the law's entities -/
def OneUp (l : List Int) (x : Int) : Prop := ∃ y ∈ l, x = 1 + y % 9
theorem makeU_go (l : List Int) (hl : l.length ≤ maxLen) (hw : ∀ x ∈ l, 0 ≤ x) : ∀ (d i : Nat) (o : List Int), d + i = l.length → o.Nodup → (∀ x ∈ o, 1 ≤ x ∧ x ≤ 9) → (i = 0 → o = []) → (0 < i → o ≠ []) → ∃ r : List Int, SI r ∧ (∀ x ∈ r, 1 ≤ x ∧ x ≤ 9) ∧ (r = [] → l = []) ∧ ∀ k, 2100 + d < k → transposallaw07_Make.l0 k o l (l.length : Int) (i : Int) = some r := by
  intro d
  induction d with
  | zero =>
    intro i o h dn ho e0 e1
    have h9 := nodup_le 9 o dn ho
    obtain ⟨r, r1, r2, r3⟩ := Sort_eq o (by omega)
    refine ⟨r, SI.of r2 (r1.nodup_iff.2 dn), fun x hx => ho x (r1.mem_iff.1 hx), fun e => ?_, fun k hk => ?_⟩
    · subst e
      have ho0 : o = [] := List.nil_perm.1 r1
      rcases Nat.eq_zero_or_pos i with h0 | h0
      · exact List.eq_nil_of_length_eq_zero (by omega)
      · exact absurd ho0 (e1 h0)
    · obtain ⟨k, rfl⟩ : ∃ k', k = k' + 1 := ⟨k - 1, by omega⟩
      simp only [transposallaw07_Make.l0]
      rw [if_neg (by omega), r3 k (by omega)]
      rfl
  | succ d ih =>
    intro i o h dn ho e0 e1
    have hi : i < l.length := by omega
    have h9 := nodup_le 9 o dn ho
    have hx0 := hw l[i] (List.getElem_mem hi)
    have hlm : l.length ≤ 9223372036854775807 := by simp only [maxLen] at hl; omega
    obtain ⟨y, hy⟩ : ∃ y, y = 1 + l[i] % 9 := ⟨_, rfl⟩
    have hyw : IntKind.u16.wrap (1 + (Int.tmod l[i] 9)) = y := by
      rw [Int.tmod_eq_emod_of_nonneg hx0]
      show (1 + l[i] % 9) % 65536 = y
      omega
    have unf : ∀ k, 2000 < k → transposallaw07_Make.l0 (k + 1) o l (l.length : Int) (i : Int) = (if decide (y ∈ o) = true then transposallaw07_Make.l0 k o l (l.length : Int) ((i + 1 : Nat) : Int) else transposallaw07_Make.l0 k (o ++ [y]) l (l.length : Int) ((i + 1 : Nat) : Int)) := by
      intro k hk
      simp only [transposallaw07_Make.l0]
      rw [if_pos (by omega), if_pos (by omega), if_pos (by omega), rd_get hi, hyw, conU_eq _ (by omega) k (by omega), w64 (by omega) (by omega)]
      simp only [Option.bind_some]
      rw [if_pos (by omega : o.length < 70368744177664), show (i : Int) + 1 = ((i + 1 : Nat) : Int) by omega]
    by_cases hm : y ∈ o
    · obtain ⟨r, r1, r2, r3, r4⟩ := ih (i + 1) o (by omega) dn ho (by omega) (fun _ e => by rw [e] at hm; cases hm)
      refine ⟨r, r1, r2, r3, fun k hk => ?_⟩
      obtain ⟨k, rfl⟩ : ∃ k', k = k' + 1 := ⟨k - 1, by omega⟩
      rw [unf k (by omega), if_pos (decide_eq_true hm)]
      exact r4 k (by omega)
    · obtain ⟨r, r1, r2, r3, r4⟩ := ih (i + 1) (o ++ [y]) (by omega) (by
        rw [List.nodup_append]
        exact ⟨dn, by simp, fun a ha b hb => by rw [List.mem_singleton.1 hb]; exact fun e => hm (e ▸ ha)⟩) (fun x hx => by
        rcases List.mem_append.1 hx with hx | hx
        · exact ho x hx
        · rw [List.mem_singleton.1 hx]
          omega) (by omega) (fun _ => by simp)
      refine ⟨r, r1, r2, r3, fun k hk => ?_⟩
      obtain ⟨k, rfl⟩ : ∃ k', k = k' + 1 := ⟨k - 1, by omega⟩
      rw [unf k (by omega), if_neg (by simpa using hm)]
      exact r4 k (by omega)
theorem u16_wf {x : Int} (h : (Lit.int .u16 x).wf = true) : 0 ≤ x ∧ x ≤ 65535 := by
  simp [Lit.wf, show IntKind.u16.min = 0 from rfl, show IntKind.u16.max = 65535 from rfl] at h
  exact h
theorem makeU_eq {l : List Int} (hl : l.length ≤ maxLen) (hw : ∀ x ∈ l, (Lit.int .u16 x).wf = true) : ∃ r : List Int, SI r ∧ (∀ x ∈ r, 1 ≤ x ∧ x ≤ 9) ∧ r.length ≤ 9 ∧ (r = [] → l = []) ∧ ∀ k, 2101 + l.length ≤ k → transposallaw07_Make.f k l = some r := by
  obtain ⟨r, r1, r2, r3, r4⟩ := makeU_go l hl (fun x hx => (u16_wf (hw x hx)).1) l.length 0 [] (by omega) List.nodup_nil (by simp) (fun _ => rfl) (fun h => absurd h (Nat.lt_irrefl _))
  exact ⟨r, r1, r2, nodup_le 9 r r1.nodup r2, r3, fun k hk => r4 k (by omega)⟩
end Go.Proofs.YtddaogebacigbaaGreatDoor.PInts
