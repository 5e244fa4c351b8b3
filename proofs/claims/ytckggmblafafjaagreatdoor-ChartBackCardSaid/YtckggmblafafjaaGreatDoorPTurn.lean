/- What taking out, putting in, moving, comparing charts come to. -/
import Derived.Test.YtckggmblafafjaaGreatDoorXA10
import Derived.Test.YtckggmblafafjaaGreatDoorXA12
import Derived.Test.YtckggmblafafjaaGreatDoorXA8
import Derived.Test.YtckggmblafafjaaGreatDoorPChartB
namespace Go.Proofs.YtckggmblafafjaaGreatDoor.PChart
open Go.RowKit Go.Proofs.YtckggmblafafjaaGreatDoorW.PrintWords Go.Proofs.YtckggmblafafjaaGreatDoorW.PrintLast Go.Proofs.YtckggmblafafjaaGreatDoor.XA Go.Proofs.YtckggmblafafjaaGreatDoor.ChartMath
set_option linter.unusedVariables false
set_option linter.unusedSimpArgs false
noncomputable instance decAcc : DecidableEq Acc := fun a b => Classical.propDecidable (a = b)
theorem eta (a : Acc) : (⟨a.f0, a.f1, a.f2, a.f3⟩ : Acc) = a := rfl
theorem without_go (c : List Acc) (n : Int) (hc : c.length ≤ 1000) : ∀ (d i : Nat), d + i = c.length → ∀ o : List Acc, o.length ≤ i → ∀ k, d < k → chart_Chart_Without.l0 k n o c (c.length : Int) (i : Int) = some (o ++ (c.drop i).filter (fun a => a.f0 != n))
  | d, i, h, o, ho, 0, hk => by omega
  | 0, i, h, o, ho, k + 1, hk => by
    simp only [chart_Chart_Without.l0]
    rw [if_neg (by omega), List.drop_eq_nil_of_le (by omega)]
    simp
  | d + 1, i, h, o, ho, k + 1, hk => by
    have hi : i < c.length := by omega
    have e := rdA_get hi
    unfold rdA at e
    simp only [chart_Chart_Without.l0]
    rw [if_pos (by omega), if_pos (by omega), if_pos (by omega), e, w64 (by omega) (by omega), show (i : Int) + 1 = ((i + 1 : Nat) : Int) by omega, List.drop_eq_getElem_cons hi]
    by_cases hn : c[i].f0 = n
    · rw [if_pos hn, without_go c n hc d (i + 1) (by omega) o (by omega) k (by omega), List.filter_cons_of_neg (by simp [hn])]
    · rw [if_neg hn, if_pos (by omega), without_go c n hc d (i + 1) (by omega) _ (by simp; omega) k (by omega), List.filter_cons_of_pos (by simp [hn])]
      simp
theorem Without_eq (c : List Acc) (n : Int) (hc : c.length ≤ 1000) (k : Nat) (hk : 1001 ≤ k) : chart_Chart_Without.f k c n = some (c.filter (fun a => a.f0 != n)) := by
  have := without_go c n hc c.length 0 (by omega) [] (by simp) k (by omega)
  simpa [chart_Chart_Without.f] using this
/-- An account, hung elsewhere. -/
def hung (n tw : Int) (a : Acc) : Acc := if a.f3 = n then ⟨a.f0, a.f1, a.f2, tw⟩ else a
theorem moved_go (n tw : Int) : ∀ (d i : Nat) (c : List Acc), d + i = c.length → c.length ≤ 1000 → ∀ k, d < k → chart_Chart_Moved.l0 k n tw c (c.length : Int) (i : Int) = some (c.take i ++ (c.drop i).map (hung n tw))
  | d, i, c, h, hc, 0, hk => by omega
  | 0, i, c, h, hc, k + 1, hk => by
    simp only [chart_Chart_Moved.l0]
    rw [if_neg (by omega), List.drop_eq_nil_of_le (by omega), List.take_of_length_le (by omega)]
    simp
  | d + 1, i, c, h, hc, k + 1, hk => by
    have hi : i < c.length := by omega
    have e := rdA_get hi
    unfold rdA at e
    simp only [chart_Chart_Moved.l0]
    rw [if_pos (by omega), if_pos (by omega), if_pos (by omega), e, w64 (by omega) (by omega), show (i : Int) + 1 = ((i + 1 : Nat) : Int) by omega, Int.toNat_natCast]
    by_cases hn : c[i].f3 = n
    · rw [if_pos hn]
      have := moved_go n tw d (i + 1) (c.set i ⟨c[i].f0, c[i].f1, c[i].f2, tw⟩) (by simp; omega) (by simpa using hc) k (by omega)
      rw [List.length_set] at this
      rw [this, List.drop_eq_getElem_cons hi, List.map_cons, List.drop_set_of_lt (by omega), List.take_succ_eq_append_getElem (by simp; omega), List.take_set_of_le (by omega)]
      simp [hung, hn]
    · have hh : hung n tw c[i] = c[i] := if_neg hn
      rw [if_neg hn, moved_go n tw d (i + 1) c (by omega) hc k (by omega), List.drop_eq_getElem_cons hi, List.map_cons, List.take_succ_eq_append_getElem hi, hh, List.append_assoc]
      rfl
theorem Moved_eq (c : List Acc) (n tw : Int) (hc : c.length ≤ 1000) (k : Nat) (hk : 1001 ≤ k) : chart_Chart_Moved.f k c n tw = some (c.map (hung n tw)) := by
  have := moved_go n tw c.length 0 c (by omega) hc k (by omega)
  unfold chart_Chart_Moved.f chart_Account_25.f
  rw [if_pos (by omega)]
  simp only [Option.bind_some]
  rw [show ((0 : Nat) : Int) = 0 from rfl] at this
  rw [this]
  simp
theorem kids_go (c : List Acc) (n : Int) (hc : c.length ≤ 1000) : ∀ (d i : Nat), d + i = c.length → ∀ o : List Int, o.length ≤ i → ∀ k, d < k → chart_Chart_Kids.l0 k n o c (c.length : Int) (i : Int) = some (o ++ ((c.drop i).filter (fun a => a.f3 == n)).map (·.f0))
  | d, i, h, o, ho, 0, hk => by omega
  | 0, i, h, o, ho, k + 1, hk => by
    simp only [chart_Chart_Kids.l0]
    rw [if_neg (by omega), List.drop_eq_nil_of_le (by omega)]
    simp
  | d + 1, i, h, o, ho, k + 1, hk => by
    have hi : i < c.length := by omega
    have e := rdA_get hi
    unfold rdA at e
    simp only [chart_Chart_Kids.l0]
    rw [if_pos (by omega), if_pos (by omega), if_pos (by omega), e, w64 (by omega) (by omega), show (i : Int) + 1 = ((i + 1 : Nat) : Int) by omega, List.drop_eq_getElem_cons hi]
    by_cases hn : c[i].f3 = n
    · rw [if_pos hn, if_pos (by omega), kids_go c n hc d (i + 1) (by omega) _ (by simp; omega) k (by omega), List.filter_cons_of_pos (by simp [hn])]
      simp
    · rw [if_neg hn, kids_go c n hc d (i + 1) (by omega) o (by omega) k (by omega), List.filter_cons_of_neg (by simp [hn])]
theorem Kids_eq (c : List Acc) (n : Int) (hc : c.length ≤ 1000) (k : Nat) (hk : 1001 ≤ k) : chart_Chart_Kids.f k c n = some ((c.filter (fun a => a.f3 == n)).map (·.f0)) := by
  have := kids_go c n hc c.length 0 (by omega) [] (by simp) k (by omega)
  simpa [chart_Chart_Kids.f] using this
theorem toList_inj {a b : ByteArray} (h : a.toList = b.toList) : a = b := by
  obtain ⟨⟨x⟩⟩ := a
  obtain ⟨⟨y⟩⟩ := b
  rw [ByteArray.toList_mk, ByteArray.toList_mk] at h
  rw [h]
theorem acc_eq (a b : Acc) : ((!((a.f0) == (b.f0)) || (!(((a.f1).toList) == ((b.f1).toList)) || (!((a.f2) == (b.f2)) || (!((a.f3) == (b.f3))))))) = !decide (a = b) := by
  obtain ⟨a0, a1, a2, a3⟩ := a
  obtain ⟨b0, b1, b2, b3⟩ := b
  by_cases h : (⟨a0, a1, a2, a3⟩ : Acc) = ⟨b0, b1, b2, b3⟩
  · injection h with h0 h1 h2 h3
    subst h0 h1 h2 h3
    simp
  · rw [decide_eq_false h]
    by_cases h0 : a0 = b0
    · by_cases h1 : a1.toList = b1.toList
      · by_cases h2 : a2 = b2
        · by_cases h3 : a3 = b3
          · exact absurd (by rw [h0, toList_inj h1, h2, h3]) h
          · simp [h3]
        · simp [h2]
      · simp [h1]
    · simp [h0]
theorem equalc_go (a b : List Acc) (hl : a.length = b.length) (hb : a.length ≤ 1000) : ∀ (d i : Nat), d + i = a.length → ∀ k, d < k → chart_Account_9.l0 k a b (a.length : Int) (i : Int) = some (decide (a.drop i = b.drop i))
  | d, i, h, 0, hk => by omega
  | 0, i, h, k + 1, hk => by
    simp only [chart_Account_9.l0]
    rw [if_neg (by omega), List.drop_eq_nil_of_le (by omega), List.drop_eq_nil_of_le (by omega)]
    simp
  | d + 1, i, h, k + 1, hk => by
    have h1 : i < a.length := by omega
    have h2 : i < b.length := by omega
    have e1 := rdA_get h1
    have e2 := rdA_get h2
    unfold rdA at e1 e2
    simp only [chart_Account_9.l0]
    rw [if_pos (by omega), if_pos (by omega), if_pos (by omega), if_pos (by omega), e1, e2, acc_eq, List.drop_eq_getElem_cons h1, List.drop_eq_getElem_cons h2]
    by_cases e : a[i] = b[i]
    · rw [decide_eq_true e, if_neg (by simp), w64 (by omega) (by omega)]
      have := equalc_go a b hl hb d (i + 1) (by omega) k (by omega)
      rw [show ((i : Int) + 1) = ((i + 1 : Nat) : Int) by omega, this]
      simp only [List.cons.injEq, e, true_and]
    · rw [decide_eq_false e, if_pos (by simp)]
      simp only [List.cons.injEq, e, false_and, decide_false]
theorem equalc_eq (a b : List Acc) (hb : a.length ≤ 1000) (k : Nat) (hk : 1001 ≤ k) : chart_Account_9.f k a b = some (decide (a = b)) := by
  unfold chart_Account_9.f
  by_cases hl : a.length = b.length
  · rw [if_pos (by omega)]
    have := equalc_go a b hl hb a.length 0 (by omega) k (by omega)
    rw [show ((0 : Nat) : Int) = 0 from rfl] at this
    rw [this]
    simp
  · rw [if_neg (by omega)]
    have : ¬ a = b := fun e => hl (by rw [e])
    simp [this]
/-- With one more at its place. -/
def withA (c : List Acc) (a : Acc) : List Acc := c.takeWhile (fun x => decide (x.f0 < a.f0)) ++ [a] ++ (c.dropWhile (fun x => decide (x.f0 < a.f0))).filter (fun x => x.f0 != a.f0)
theorem split_at {c : List Acc} {n : Int} {i : Nat} (hA : At c n i) : c.takeWhile (fun x => decide (x.f0 < n)) = c.take i ∧ c.dropWhile (fun x => decide (x.f0 < n)) = c.drop i := by
  obtain ⟨h1, h2, h3⟩ := hA
  have ht : ∀ x ∈ c.take i, decide (x.f0 < n) = true := by
    intro x hx
    obtain ⟨j, hj, rfl⟩ := List.getElem_of_mem hx
    rw [List.getElem_take]
    rw [List.length_take] at hj
    exact decide_eq_true (h2 j (by omega) (by omega))
  have hd : ∀ x t, c.drop i = x :: t → decide (x.f0 < n) = false := by
    intro x t e
    have hl : i < c.length := by
      have := congrArg List.length e
      rw [List.length_drop, List.length_cons] at this
      omega
    rw [List.drop_eq_getElem_cons hl] at e
    injection e with e _
    rw [← e]
    have := h3 i hl (Nat.le_refl _)
    exact decide_eq_false (by omega)
  have e : c = c.take i ++ c.drop i := (List.take_append_drop i c).symm
  constructor
  · conv => lhs; rw [e]
    rw [List.takeWhile_append_of_pos ht]
    cases hdd : c.drop i with
    | nil => simp
    | cons x t => rw [List.takeWhile_cons_of_neg (by rw [hd x t hdd]; simp)]; simp
  · conv => lhs; rw [e]
    rw [List.dropWhile_append_of_pos ht]
    cases hdd : c.drop i with
    | nil => simp
    | cons x t => rw [List.dropWhile_cons_of_neg (by rw [hd x t hdd]; simp)]
theorem filter_all {c : List Acc} {n : Int} (h : ∀ x ∈ c, n < x.f0) : c.filter (fun x => x.f0 != n) = c := by
  rw [List.filter_eq_self]
  intro x hx
  have := h x hx
  simp
  omega
theorem With_eq {c : List Acc} (S : Sorted c) (a : Acc) (hc : c.length ≤ 250) (k : Nat) (hk : 300 ≤ k) : chart_Chart_With.f k c a.f0 a.f1 a.f2 a.f3 = some (withA c a) := by
  obtain ⟨i, hA, h⟩ := bin_eq S a.f0 hc
  obtain ⟨t1, t2⟩ := split_at hA
  have hA' := hA
  obtain ⟨h1, h2, h3⟩ := hA'
  unfold chart_Chart_With.f withA
  rw [h k hk, t1, t2]
  simp only [Option.bind_some]
  rw [if_pos (by omega), if_pos (by omega), Int.toNat_natCast]
  unfold hit
  by_cases hi : i < c.length
  · rw [List.getElem?_eq_getElem hi]
    have hge := h3 i hi (Nat.le_refl _)
    have hgt : ∀ x ∈ c.drop (i + 1), a.f0 < x.f0 := by
      intro x hx
      obtain ⟨j, hj, rfl⟩ := List.getElem_of_mem hx
      rw [List.getElem_drop]
      rw [List.length_drop] at hj
      have := sorted_lt S (show i + 1 + j < c.length by omega) (show i < i + 1 + j by omega)
      omega
    by_cases he : c[i].f0 = a.f0
    · rw [if_pos (by simp [he]), if_pos (by omega), List.drop_eq_getElem_cons hi, List.filter_cons_of_neg (by simp [he]), filter_all hgt, List.set_eq_take_append_cons_drop, if_pos hi]
      simp
    · rw [if_neg (by simp [he]), if_pos (by omega), List.drop_eq_getElem_cons hi, List.filter_cons_of_pos (by simp [he]), filter_all hgt]
  · rw [List.getElem?_eq_none (by omega), if_neg (by simp), if_pos (by omega), List.drop_eq_nil_of_le (by omega)]
    simp
end Go.Proofs.YtckggmblafafjaaGreatDoor.PChart
