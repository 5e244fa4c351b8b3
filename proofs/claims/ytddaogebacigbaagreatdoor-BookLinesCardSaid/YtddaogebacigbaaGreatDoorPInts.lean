/- Rising rows of whole numbers: by halves, by going through all, one more. -/
import Derived.Test.YtddaogebacigbaaGreatDoorXA3
import Derived.Test.YtddaogebacigbaaGreatDoorXA1
import Derived.Test.YtddaogebacigbaaGreatDoorXA6
import Derived.Test.YtddaogebacigbaaGreatDoorXA0
namespace Go.Proofs.YtddaogebacigbaaGreatDoor.PInts
open Go.RowKit Go.Proofs.YtddaogebacigbaaGreatDoorW.PrintWords Go.Proofs.YtddaogebacigbaaGreatDoorW.PrintLast Go.Proofs.YtddaogebacigbaaGreatDoor.XA
set_option linter.unusedVariables false
set_option linter.unusedSimpArgs false
theorem w64 {x : Int} (h1 : -9223372036854775808 ≤ x) (h2 : x ≤ 9223372036854775807) : wrap64 x = x := by unfold wrap64; omega
theorem rd_get {l : List Int} {i : Nat} (h : i < l.length) : rd l (i : Int) = l[i] := by
  show l.getD (i : Int).toNat 0 = _
  rw [Int.toNat_natCast, List.getD_eq_getElem?_getD, List.getElem?_eq_getElem h]
  rfl
/-- Rising. -/
def SI (l : List Int) : Prop := l.Pairwise (· < ·)
theorem SI.lt {l : List Int} (S : SI l) {i j : Nat} (hj : j < l.length) (h : i < j) : (l[i]'(by omega)) < l[j] := List.pairwise_iff_getElem.1 S i j (by omega) hj h
theorem SI.ext : ∀ {a b : List Int}, SI a → SI b → (∀ x, x ∈ a ↔ x ∈ b) → a = b
  | [], [], _, _, _ => rfl
  | [], y :: t, _, _, h => absurd ((h y).2 List.mem_cons_self) (by simp)
  | x :: s, [], _, _, h => absurd ((h x).1 List.mem_cons_self) (by simp)
  | x :: s, y :: t, A, B, h => by
    unfold SI at A B
    rw [List.pairwise_cons] at A B
    have e : x = y := by
      rcases List.mem_cons.1 ((h x).1 List.mem_cons_self) with e | h1
      · exact e
      · rcases List.mem_cons.1 ((h y).2 List.mem_cons_self) with e | h2
        · exact e.symm
        · have := B.1 x h1
          have := A.1 y h2
          omega
    subst e
    congr 1
    refine SI.ext A.2 B.2 (fun z => ⟨fun hz => ?_, fun hz => ?_⟩)
    · rcases List.mem_cons.1 ((h z).1 (List.mem_cons_of_mem _ hz)) with e | h1
      · have := A.1 z hz
        omega
      · exact h1
    · rcases List.mem_cons.1 ((h z).2 (List.mem_cons_of_mem _ hz)) with e | h1
      · have := B.1 z hz
        omega
      · exact h1
theorem SI.nodup {l : List Int} (S : SI l) : l.Nodup := S.imp (fun h => by omega)
theorem SI.of {l : List Int} (h : l.Pairwise (· ≤ ·)) (d : l.Nodup) : SI l := (List.pairwise_and_iff.2 ⟨h, d⟩).imp (fun {a b} h => by have h1 := h.1; have h2 := h.2; omega)
theorem nodup_le : ∀ (m : Nat) (l : List Int), l.Nodup → (∀ x ∈ l, 1 ≤ x ∧ x ≤ (m : Int)) → l.length ≤ m
  | 0, l, _, h => by
    cases l with
    | nil => simp
    | cons x t =>
      have := h x (by simp)
      omega
  | m + 1, l, d, h => by
    have ih := nodup_le m (l.erase ((m + 1 : Nat) : Int)) (d.erase _) (fun x hx => by
      have h1 := (List.Nodup.mem_erase_iff d).1 hx
      have h2 := h x h1.2
      have h3 := h1.1
      omega)
    by_cases hm : ((m + 1 : Nat) : Int) ∈ l
    · rw [List.length_erase_of_mem hm] at ih
      omega
    · rw [List.erase_of_not_mem hm] at ih
      omega
/-- A place: ahead of it the numbers below n, from it on the others. -/
def AtI (l : List Int) (n : Int) (i : Nat) : Prop := i ≤ l.length ∧ (∀ (j : Nat) (h : j < l.length), j < i → l[j] < n) ∧ (∀ (j : Nat) (h : j < l.length), i ≤ j → n ≤ l[j])
def hitI (l : List Int) (n : Int) (i : Nat) : Bool := l[i]? == some n
theorem cmp_Less_uint16_eq (a b : Int) : cmp_Less_uint16.f a b = some (decide (a < b)) := by
  simp [cmp_Less_uint16.f, cmp_isNaN_uint16.f]
theorem binU_go {l : List Int} (S : SI l) (n : Int) (hc : l.length ≤ 1000) : ∀ (d lo hi : Nat), hi - lo ≤ d → lo ≤ hi → hi ≤ l.length → (∀ (j : Nat) (h : j < l.length), j < lo → l[j] < n) → (∀ (j : Nat) (h : j < l.length), hi ≤ j → n ≤ l[j]) →
    ∃ i : Nat, AtI l n i ∧ ∀ k, d < k → unit_Units_uint16_112.l0 k l n (l.length : Int) (lo : Int) (hi : Int) = some ((i : Int), hitI l n i) := by
  intro d
  induction d with
  | zero =>
    intro lo hi h1 h2 h3 hlo hhi
    obtain rfl : lo = hi := by omega
    refine ⟨lo, ⟨h3, hlo, hhi⟩, fun k hk => ?_⟩
    cases k with
    | zero => omega
    | succ k =>
      simp only [unit_Units_uint16_112.l0]
      rw [if_neg (by omega)]
      by_cases h : lo < l.length
      · rw [if_pos (by omega), if_pos (by omega), if_pos (by omega), rd_get h]
        unfold hitI
        rw [List.getElem?_eq_getElem h]
        by_cases he : l[lo] = n
        · simp [he]
        · simp [he, slices_isNaN_uint16.f]
      · rw [if_neg (by omega)]
        unfold hitI
        rw [List.getElem?_eq_none (by omega)]
        rfl
  | succ d ih =>
    intro lo hi h1 h2 h3 hlo hhi
    by_cases hlt : lo < hi
    · obtain ⟨m, hm, hm2⟩ : ∃ m : Nat, m = (lo + hi) / 2 ∧ lo ≤ m := ⟨_, rfl, by omega⟩
      have hmc : m < l.length := by omega
      have hw : wrap64 ((IntKind.u64.wrap (wrap64 ((lo : Int) + (hi : Int)))) / 2) = (m : Int) := by
        rw [w64 (x := (lo : Int) + hi) (by omega) (by omega)]
        have : IntKind.u64.wrap ((lo : Int) + (hi : Int)) = (lo : Int) + hi := by
          show ((lo : Int) + (hi : Int)) % 18446744073709551616 = _
          omega
        rw [this, w64 (by omega) (by omega)]
        omega
      by_cases hcmp : l[m] < n
      · obtain ⟨i, hA, hi'⟩ := ih (m + 1) hi (by omega) (by omega) h3 (fun j hj hjm => by
          rcases Nat.lt_or_ge j m with h | h
          · have := S.lt hmc h
            omega
          · obtain rfl : j = m := by omega
            exact hcmp) hhi
        refine ⟨i, hA, fun k hk => ?_⟩
        cases k with
        | zero => omega
        | succ k =>
          simp only [unit_Units_uint16_112.l0]
          rw [if_pos (by omega), hw, if_pos (by omega), if_pos (by omega), rd_get hmc, cmp_Less_uint16_eq]
          simp only [Option.bind_some]
          rw [if_pos (decide_eq_true hcmp), w64 (by omega) (by omega)]
          exact hi' k (by omega)
      · obtain ⟨i, hA, hi'⟩ := ih lo m (by omega) (by omega) (by omega) hlo (fun j hj hjm => by
          rcases Nat.lt_or_ge m j with h | h
          · have := S.lt hj h
            omega
          · obtain rfl : j = m := by omega
            omega)
        refine ⟨i, hA, fun k hk => ?_⟩
        cases k with
        | zero => omega
        | succ k =>
          simp only [unit_Units_uint16_112.l0]
          rw [if_pos (by omega), hw, if_pos (by omega), if_pos (by omega), rd_get hmc, cmp_Less_uint16_eq]
          simp only [Option.bind_some]
          rw [if_neg (by simpa using hcmp)]
          exact hi' k (by omega)
    · obtain ⟨i, hA, hi'⟩ := ih lo hi (by omega) h2 h3 hlo hhi
      exact ⟨i, hA, fun k hk => hi' k (by omega)⟩
theorem binU_eq {l : List Int} (S : SI l) (n : Int) (hc : l.length ≤ 1000) : ∃ i : Nat, AtI l n i ∧ ∀ k, 1001 ≤ k → unit_Units_uint16_112.f k l n = some ((i : Int), hitI l n i) := by
  obtain ⟨i, hA, h⟩ := binU_go S n hc l.length 0 l.length (by omega) (by omega) (Nat.le_refl _) (fun j _ h => by omega) (fun j h1 h2 => by omega)
  refine ⟨i, hA, fun k hk => ?_⟩
  have := h k (by omega)
  rw [show ((0 : Nat) : Int) = 0 from rfl] at this
  exact this
theorem conU_go (l : List Int) (n : Int) (hl : l.length ≤ 1000) : ∀ (j i : Nat), i + j = l.length → ∀ k, j < k → ∃ r, unit_Units_uint16_96.l0 k l n (l.length : Int) (i : Int) = some r ∧ (decide (r ≥ 0) = decide (n ∈ l.drop i))
  | j, i, h, 0, hk => by omega
  | 0, i, h, k + 1, hk => by
    simp only [unit_Units_uint16_96.l0]
    rw [if_neg (by omega), List.drop_eq_nil_of_le (by omega)]
    exact ⟨-1, rfl, by simp⟩
  | j + 1, i, h, k + 1, hk => by
    have hi : i < l.length := by omega
    simp only [unit_Units_uint16_96.l0]
    rw [if_pos (by omega), if_pos (by omega), if_pos (by omega), rd_get hi, List.drop_eq_getElem_cons hi]
    by_cases hn : n = l[i]
    · rw [if_pos hn]
      exact ⟨i, rfl, by simp [← hn]⟩
    · rw [if_neg hn, w64 (by omega) (by omega)]
      obtain ⟨r, e, hr⟩ := conU_go l n hl j (i + 1) (by omega) k (by omega)
      refine ⟨r, by rw [← e]; rfl, ?_⟩
      rw [hr]
      simp only [List.mem_cons, hn, false_or]
theorem conU_eq {l : List Int} (n : Int) (hl : l.length ≤ 1000) (k : Nat) (hk : 1001 ≤ k) : unit_Units_uint16_78.f k l n = some (decide (n ∈ l)) := by
  obtain ⟨r, e, hr⟩ := conU_go l n hl l.length 0 (by omega) k (by omega)
  unfold unit_Units_uint16_78.f unit_Units_uint16_96.f
  rw [show ((0 : Nat) : Int) = 0 from rfl] at e
  rw [e]
  simp only [Option.bind_some, hr, List.drop_zero]
theorem hit_mem {l : List Int} (S : SI l) {n : Int} {i : Nat} (hA : AtI l n i) : hitI l n i = true ↔ n ∈ l := by
  obtain ⟨h1, h2, h3⟩ := hA
  unfold hitI
  constructor
  · intro h
    exact List.mem_of_getElem? (by simpa using h)
  · intro h
    obtain ⟨j, hj, rfl⟩ := List.getElem_of_mem h
    have hji : ¬ j < i := fun hlt => by have := h2 j hj hlt; omega
    rcases Nat.lt_or_ge i j with hlt | hge
    · have a1 := S.lt hj hlt
      have a2 := h3 i (by omega) (Nat.le_refl _)
      omega
    · obtain rfl : i = j := by omega
      simp [hj]
/-- One more. -/
theorem With_eq {l : List Int} (S : SI l) (n : Int) (hc : l.length ≤ 1000) : ∃ r, SI r ∧ (∀ x, x ∈ r ↔ x = n ∨ x ∈ l) ∧ l.length ≤ r.length ∧ r.length ≤ l.length + 1 ∧ (n ∉ l → r.length = l.length + 1) ∧ ∀ k, 1001 ≤ k → unit_Units_With.f k l n = some r := by
  obtain ⟨i, hA, h⟩ := binU_eq S n hc
  have hm := hit_mem S hA
  obtain ⟨h1, h2, h3⟩ := hA
  by_cases hn : n ∈ l
  · refine ⟨l, S, fun x => ⟨fun h => .inr h, fun h => ?_⟩, Nat.le_refl _, by omega, fun h => absurd hn h, fun k hk => ?_⟩
    · rcases h with rfl | h
      · exact hn
      · exact h
    · unfold unit_Units_With.f
      rw [h k hk, hm.2 hn]
      simp only [Option.bind_some]
      rw [if_pos (by omega), if_pos trivial]
  · have hf : hitI l n i = false := by
      cases hh : hitI l n i
      · rfl
      · exact absurd (hm.1 hh) hn
    refine ⟨l.take i ++ [n] ++ l.drop i, ?_, fun x => ?_, by simp; omega, by simp; omega, fun _ => by simp; omega, fun k hk => ?_⟩
    · unfold SI
      rw [List.append_assoc, List.pairwise_append]
      refine ⟨S.take, ?_, fun a ha b hb => ?_⟩
      · rw [List.singleton_append, List.pairwise_cons]
        refine ⟨fun b hb => ?_, S.drop⟩
        obtain ⟨j, hj, rfl⟩ := List.getElem_of_mem hb
        rw [List.getElem_drop]
        rw [List.length_drop] at hj
        have h4 := h3 (i + j) (by omega) (by omega)
        have h5 : ¬ n = l[i + j] := fun e => hn (e ▸ List.getElem_mem _)
        omega
      · obtain ⟨j, hj, rfl⟩ := List.getElem_of_mem ha
        rw [List.length_take] at hj
        rw [List.getElem_take]
        have h4 := h2 j (by omega) (by omega)
        rcases List.mem_append.1 hb with hb | hb
        · rw [List.mem_singleton.1 hb]
          exact h4
        · obtain ⟨q, hq, rfl⟩ := List.getElem_of_mem hb
          rw [List.getElem_drop]
          rw [List.length_drop] at hq
          exact S.lt (by omega) (by omega)
    · have e : l = l.take i ++ l.drop i := (List.take_append_drop i l).symm
      constructor
      · intro hx
        rcases List.mem_append.1 hx with hx | hx
        · rcases List.mem_append.1 hx with hx | hx
          · exact .inr (List.mem_of_mem_take hx)
          · exact .inl (List.mem_singleton.1 hx)
        · exact .inr (List.mem_of_mem_drop hx)
      · rintro (rfl | hx)
        · simp
        · rw [e] at hx
          rcases List.mem_append.1 hx with hx | hx
          · exact List.mem_append_left _ (List.mem_append_left _ hx)
          · exact List.mem_append_right _ hx
    · unfold unit_Units_With.f
      rw [h k hk, hf]
      simp only [Option.bind_some]
      rw [if_pos (by omega), if_neg (by simp), if_pos (by omega), if_pos (by omega), Int.toNat_natCast]
/-! ### may they be? -/
theorem hasU {l : List Int} (n : Int) (hl : l.length ≤ 1000) (k : Nat) (hk : 1001 ≤ k) : unit_Units_Has.f k l n = some (decide (n ∈ l)) := by
  unfold unit_Units_Has.f
  rw [conU_eq n hl k hk]
  rfl
end Go.Proofs.YtddaogebacigbaaGreatDoor.PInts
