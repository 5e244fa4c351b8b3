/- Plain mathematics of charts: accounts by rising codes; the way of an account; in what it lies. No program in sight but the account's own type. -/
import Derived.Test.YtddaogebacigbaaGreatDoorXA0
namespace Go.Proofs.YtddaogebacigbaaGreatDoor.ChartMath
open Go.RowKit Go.Proofs.YtddaogebacigbaaGreatDoorW.PrintWords Go.Proofs.YtddaogebacigbaaGreatDoorW.PrintLast Go.Proofs.YtddaogebacigbaaGreatDoor.XA
set_option linter.unusedVariables false
set_option linter.unusedSimpArgs false
abbrev Acc := S109
def Sorted (c : List Acc) : Prop := c.Pairwise (fun a b => a.f0 < b.f0)
def find (c : List Acc) (n : Int) : Option Acc := c.find? (fun a => a.f0 == n)
/-- An account's way, so many accounts at most. -/
def way (c : List Acc) : Nat → Int → List Int
  | 0, _ => []
  | k + 1, n => match find c n with
    | none => []
    | some a => n :: way c k a.f3
theorem find_mem {c : List Acc} {n : Int} {a : Acc} (h : find c n = some a) : a ∈ c ∧ a.f0 = n := by
  unfold find at h
  have h1 := List.mem_of_find?_eq_some h
  have h2 := List.find?_some h
  exact ⟨h1, by simpa using h2⟩
theorem find_none {c : List Acc} {n : Int} (h : find c n = none) : ∀ a ∈ c, a.f0 ≠ n := by
  unfold find at h
  rw [List.find?_eq_none] at h
  intro a ha e
  exact h a ha (by simp [e])
theorem sorted_inj {c : List Acc} (S : Sorted c) {a b : Acc} (ha : a ∈ c) (hb : b ∈ c) (e : a.f0 = b.f0) : a = b := by
  induction c with
  | nil => cases ha
  | cons x t ih =>
    unfold Sorted at S
    rw [List.pairwise_cons] at S
    rcases List.mem_cons.1 ha with rfl | ha
    · rcases List.mem_cons.1 hb with rfl | hb
      · rfl
      · have := S.1 b hb
        omega
    · rcases List.mem_cons.1 hb with e2 | hb
      · have := S.1 a ha
        rw [← e2] at this
        omega
      · exact ih S.2 ha hb
theorem find_of_mem {c : List Acc} (S : Sorted c) {a : Acc} (ha : a ∈ c) : find c a.f0 = some a := by
  cases h : find c a.f0 with
  | none => exact absurd rfl (find_none h a ha)
  | some b =>
    obtain ⟨hb, e⟩ := find_mem h
    rw [sorted_inj S hb ha e]
theorem way_length (c : List Acc) : ∀ k n, (way c k n).length ≤ k
  | 0, _ => by simp [way]
  | k + 1, n => by
    unfold way
    split
    · simp
    · simp
      exact way_length c k _
theorem way_in {c : List Acc} {k : Nat} {a : Acc} (S : Sorted c) (ha : a ∈ c) : way c (k + 1) a.f0 = a.f0 :: way c k a.f3 := by
  rw [way, find_of_mem S ha]
/-- A chart of which each account lies in none, or in one ahead of it, of its kind, and no way is longer than twelve. -/
structure Good (c : List Acc) : Prop where
  sorted : Sorted c
  pos : ∀ a ∈ c, 1 ≤ a.f0
  parent : ∀ a ∈ c, a.f3 = 0 ∨ ∃ p ∈ c, p.f0 = a.f3 ∧ p.f0 < a.f0 ∧ p.f2 = a.f2
  deep : ∀ a ∈ c, (way c 13 a.f0).length ≤ 12
theorem find_zero {c : List Acc} (G : Good c) : find c 0 = none := by
  cases h : find c 0 with
  | none => rfl
  | some b =>
    obtain ⟨hb, e⟩ := find_mem h
    have := G.pos b hb
    omega
theorem way_zero {c : List Acc} (G : Good c) (k : Nat) : way c k 0 = [] := by
  cases k with
  | zero => rfl
  | succ k => rw [way, find_zero G]
theorem way_mono (c : List Acc) : ∀ k n, (way c k n).length ≤ (way c (k + 1) n).length
  | 0, n => by simp [way]
  | k + 1, n => by
    rw [way, way]
    split
    · exact Nat.le_refl _
    · simp
      exact way_mono c k _
/-- More room, the same way, where it ends within. -/
theorem way_stop {c : List Acc} : ∀ (k n), (way c k n).length < k → ∀ j, way c (k + j) n = way c k n
  | 0, n, h, j => by simp [way] at h
  | k + 1, n, h, j => by
    rw [show k + 1 + j = (k + j) + 1 by omega, way, way]
    split
    · rfl
    · rename_i a ha
      rw [way, ha] at h
      simp at h
      rw [way_stop k a.f3 (by omega) j]
theorem way_13 {c : List Acc} (G : Good c) {a : Acc} (ha : a ∈ c) : way c 13 a.f0 = a.f0 :: way c 13 a.f3 := by
  have hd := G.deep a ha
  rw [way_in G.sorted ha] at hd
  simp at hd
  rw [way_in G.sorted ha, ← way_stop 12 a.f3 (by omega) 1]
/-- What is on a way is an account of the chart, at most as great, of its kind. -/
theorem way_sub {c : List Acc} (G : Good c) : ∀ (k : Nat) (a : Acc), a ∈ c → ∀ x ∈ way c k a.f0, ∃ b ∈ c, b.f0 = x ∧ b.f0 ≤ a.f0 ∧ b.f2 = a.f2
  | 0, a, ha, x, hx => by simp [way] at hx
  | k + 1, a, ha, x, hx => by
    rw [way_in G.sorted ha] at hx
    rcases List.mem_cons.1 hx with rfl | hx
    · exact ⟨a, ha, rfl, Int.le_refl _, rfl⟩
    · rcases G.parent a ha with h0 | ⟨p, hp, e, hlt, hk⟩
      · rw [h0, way_zero G] at hx
        cases hx
      · rw [← e] at hx
        obtain ⟨b, hb, e1, e2, e3⟩ := way_sub G k p hp x hx
        exact ⟨b, hb, e1, by omega, by rw [e3, hk]⟩
theorem self_in {c : List Acc} (G : Good c) {a : Acc} (ha : a ∈ c) : a.f0 ∈ way c 13 a.f0 := by rw [way_13 G ha]; exact List.mem_cons_self
theorem parent_in {c : List Acc} (G : Good c) {a : Acc} (ha : a ∈ c) (h : a.f3 ≠ 0) : a.f3 ∈ way c 13 a.f0 ∧ ¬ a.f0 ∈ way c 13 a.f3 := by
  rcases G.parent a ha with h0 | ⟨p, hp, e, hlt, hk⟩
  · exact absurd h0 h
  · rw [way_13 G ha, ← e]
    refine ⟨List.mem_cons_of_mem _ (self_in G hp), fun hx => ?_⟩
    obtain ⟨b, _, e1, e2, _⟩ := way_sub G 13 p hp _ hx
    omega
theorem both_in {c : List Acc} (G : Good c) {a b : Acc} (ha : a ∈ c) (hb : b ∈ c) (h1 : b.f0 ∈ way c 13 a.f0) (h2 : a.f0 ∈ way c 13 b.f0) : a.f0 = b.f0 := by
  obtain ⟨_, _, e1, e2, _⟩ := way_sub G 13 a ha _ h1
  obtain ⟨_, _, e3, e4, _⟩ := way_sub G 13 b hb _ h2
  omega
theorem kind_in {c : List Acc} (G : Good c) {a b : Acc} (ha : a ∈ c) (hb : b ∈ c) (h1 : b.f0 ∈ way c 13 a.f0) : a.f2 = b.f2 := by
  obtain ⟨x, hx, e1, _, e2⟩ := way_sub G 13 a ha _ h1
  rw [← e2, sorted_inj G.sorted hx hb e1]
theorem step_in {c : List Acc} (G : Good c) {a : Acc} (ha : a ∈ c) {n : Int} (h : n ≠ a.f0) : n ∈ way c 13 a.f0 ↔ a.f3 ≠ 0 ∧ n ∈ way c 13 a.f3 := by
  rw [way_13 G ha, List.mem_cons]
  constructor
  · rintro (e | hx)
    · exact absurd e h
    · refine ⟨fun h0 => ?_, hx⟩
      rw [h0, way_zero G] at hx
      cases hx
  · exact fun hx => .inr hx.2
/-- One account more behind all others. -/
theorem find_snoc {c : List Acc} {x : Acc} {n : Int} (h : n ≠ x.f0) : find (c ++ [x]) n = find c n := by
  unfold find
  rw [List.find?_append]
  have : [x].find? (fun a => a.f0 == n) = none := by simp; omega
  rw [this]
  cases c.find? (fun a => a.f0 == n) <;> rfl
theorem way_snoc {c : List Acc} {x : Acc} (hpar : ∀ a ∈ c, a.f3 ≠ x.f0) : ∀ (k : Nat) (n : Int), n ≠ x.f0 → way (c ++ [x]) k n = way c k n
  | 0, n, _ => rfl
  | k + 1, n, h => by
    rw [way, way, find_snoc h]
    split
    · rfl
    · rename_i a ha
      rw [way_snoc hpar k a.f3 (hpar a (find_mem ha).1)]
theorem Good.nil : Good [] := ⟨List.Pairwise.nil, by simp, by simp, by simp⟩
theorem Good.snoc {c : List Acc} (G : Good c) {x : Acc} (hpos : 1 ≤ x.f0) (hgt : ∀ a ∈ c, a.f0 < x.f0)
    (hp : x.f3 = 0 ∨ ∃ p ∈ c, p.f0 = x.f3 ∧ p.f2 = x.f2 ∧ (way c 13 p.f0).length ≤ 11) : Good (c ++ [x]) := by
  have hpar : ∀ a ∈ c, a.f3 ≠ x.f0 := by
    intro a ha e
    rcases G.parent a ha with h0 | ⟨p, hpc, e2, hlt, _⟩
    · omega
    · have := hgt p hpc
      omega
  have hs : Sorted (c ++ [x]) := by
    unfold Sorted
    rw [List.pairwise_append]
    exact ⟨G.sorted, List.pairwise_singleton _ _, fun a ha b hb => by rw [List.mem_singleton.1 hb]; exact hgt a ha⟩
  refine ⟨hs, fun a ha => ?_, fun a ha => ?_, fun a ha => ?_⟩
  · rcases List.mem_append.1 ha with ha | ha
    · exact G.pos a ha
    · rw [List.mem_singleton.1 ha]; exact hpos
  · rcases List.mem_append.1 ha with ha | ha
    · rcases G.parent a ha with h0 | ⟨p, hpc, e⟩
      · exact .inl h0
      · exact .inr ⟨p, List.mem_append_left _ hpc, e⟩
    · rw [List.mem_singleton.1 ha]
      rcases hp with h0 | ⟨p, hpc, e1, e2, _⟩
      · exact .inl h0
      · exact .inr ⟨p, List.mem_append_left _ hpc, e1, hgt p hpc, e2⟩
  · rcases List.mem_append.1 ha with ha | ha
    · rw [way_snoc hpar 13 a.f0 (by have := hgt a ha; omega)]
      exact G.deep a ha
    · obtain rfl := List.mem_singleton.1 ha
      rw [way_in hs (List.mem_append_right _ (List.mem_singleton.2 rfl))]
      rcases hp with h0 | ⟨p, hpc, e1, e2, h3⟩
      · have hz : find (c ++ [a]) 0 = none := by
          rw [find_snoc (by omega)]
          exact find_zero G
        rw [h0, way, hz]
        simp
      · rw [way_snoc hpar 12 a.f3 (by have := hgt p hpc; omega), ← e1]
        have h4 := way_mono c 12 p.f0
        have h5 : (way c 12 p.f0).length < 12 := by have h6 : (way c (12 + 1) p.f0).length ≤ 11 := h3; omega
        have := way_stop 12 p.f0 h5 1
        rw [this] at h3
        simp
        omega
end Go.Proofs.YtddaogebacigbaaGreatDoor.ChartMath
