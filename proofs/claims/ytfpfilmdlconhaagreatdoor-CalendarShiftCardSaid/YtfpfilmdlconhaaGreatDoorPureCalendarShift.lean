/- CalendarShift, as its pure statement. No conditions. -/
import Derived.Test.YtfpfilmdlconhaaGreatDoorXA17
import Derived.Test.YtfpfilmdlconhaaGreatDoorPAwake7
import Derived.Test.YtfpfilmdlconhaaGreatDoorPCal
namespace Go.Proofs.YtfpfilmdlconhaaGreatDoor.Pure
open Go.RowKit Go.Proofs.YtfpfilmdlconhaaGreatDoorW.PrintWords Go.Proofs.YtfpfilmdlconhaaGreatDoorW.PrintLast Go.Proofs.YtfpfilmdlconhaaGreatDoor.XA Go.Proofs.YtfpfilmdlconhaaGreatDoor.PInts Go.Proofs.YtfpfilmdlconhaaGreatDoor.PCal
set_option linter.unusedVariables false
set_option linter.unusedSimpArgs false
theorem shiftC {s : List Int} {d : Int} {c : Nat} (A : AtC s d c) (b : Int) : AtC (s.map (· + b)) (d + b) c := by
  obtain ⟨a1, a2, a3⟩ := A
  refine ⟨by simpa using a1, fun j hj h => ?_, fun j hj h => ?_⟩
  · have := a2 j (by simpa using hj) h
    rw [List.getElem_map]
    omega
  · have := a3 j (by simpa using hj) h
    rw [List.getElem_map]
    omega
theorem map_take_succ (s : List Int) (b : Int) {i : Nat} (hi : i < s.length) : (s.take i).map (· + b) ++ [s[i] + b] = (s.take (i + 1)).map (· + b) := by
  rw [List.take_succ_eq_append_getElem hi, List.map_append, List.map_singleton]
theorem shift_end {a : Int} {s : List Int} {e : Int} (M : MadeC a s e) (ha : -32768 ≤ a ∧ a ≤ 32768) {x b : Int} (hx : -32768 ≤ x ∧ x ≤ 32767) (hb : 0 ≤ b ∧ b ≤ 255) (k : Nat) (hk : 26100 ≤ k) :
    transposallaw08_CalendarShift.l0 k x b s (s.length : Int) (s.length : Int) s e (s.map (· + b)) (e + b) = some true := by
  obtain ⟨k, rfl⟩ : ∃ k', k = k' + 1 := ⟨k - 1, by omega⟩
  have hl := M.len
  have hs0 : 0 < s.length := by omega
  have hlow := M.low s[0] (List.getElem_mem hs0)
  have hend := M.end_
  have S' : SI (s.map (· + b)) := by
    unfold SI
    rw [List.pairwise_map]
    exact M.si.imp (fun h => by omega)
  have hl' : (s.map (· + b)).length = s.length := List.length_map _
  obtain ⟨c, A, hc⟩ := Period_eq M.si (by omega) x
  obtain ⟨c', A', hc'⟩ := Period_eq S' (by omega) (x + b)
  have e1 := A'.one (shiftC A b)
  subst e1
  simp only [transposallaw08_CalendarShift.l0]
  rw [if_neg (by omega), w32 (x := x) (by omega) (by omega), w32 (x := b) (by omega) (by omega), w32 (x := x + b) (by omega) (by omega), hc e k (by omega), hc' (e + b) k (by omega)]
  simp only [Option.bind_some]
  have e2 : inPeriod c' (e + b) (x + b) = inPeriod c' e x := by
    unfold inPeriod
    by_cases h : c' = 0 ∨ e ≤ x
    · rw [if_pos h, if_pos (by omega)]
    · rw [if_neg h, if_neg (by omega)]
  rw [e2, if_pos rfl, if_pos (by simp), checkC_ok S' (by omega) (by omega) (fun y hy => ?_) (fun y hy => ?_) (by unfold good; omega) k (by omega)]
  · simp only [Option.bind_some]
    rw [if_pos trivial, SameC_eq _ _ _ _ (by omega) k (by omega)]
    simp only [Option.bind_some]
    by_cases h0 : b = 0
    · subst h0
      simp
    · rw [decide_eq_false (by rintro ⟨h, _⟩; omega)]
      simp [h0]
  · obtain ⟨z, hz, rfl⟩ := List.mem_map.1 hy
    have := M.low z hz
    show z + b < e + b
    omega
  · obtain ⟨z, hz, rfl⟩ := List.mem_map.1 hy
    have := M.low z hz
    show -719162 ≤ z + b ∧ z + b < 2932897
    omega
theorem shift_go {a : Int} {s : List Int} {e : Int} (M : MadeC a s e) (ha : -32768 ≤ a ∧ a ≤ 32768) {x b : Int} (hx : -32768 ≤ x ∧ x ≤ 32767) (hb : 0 ≤ b ∧ b ≤ 255) : ∀ (q i : Nat), q + i = s.length → ∀ k, 26100 + q ≤ k →
    transposallaw08_CalendarShift.l0 k x b s (s.length : Int) (i : Int) s e ((s.take i).map (· + b)) (e + b) = some true
  | 0, i, h, k, hk => by
    obtain rfl : i = s.length := by omega
    rw [List.take_length]
    exact shift_end M ha hx hb k (by omega)
  | q + 1, i, h, k, hk => by
    obtain ⟨k, rfl⟩ : ∃ k', k = k' + 1 := ⟨k - 1, by omega⟩
    have hl := M.len
    have hi : i < s.length := by omega
    have hlow := M.low s[i] (List.getElem_mem hi)
    have hend := M.end_
    have ih := shift_go M ha hx hb q (i + 1) (by omega) k (by omega)
    simp only [transposallaw08_CalendarShift.l0]
    rw [if_pos (by omega), if_pos (by omega), if_pos (by omega), if_pos (by simp; omega), rd_get hi, w32 (x := b) (by omega) (by omega), w32 (x := s[i] + b) (by omega) (by omega), w64 (by omega) (by omega), map_take_succ s b hi, show (i : Int) + 1 = ((i + 1 : Nat) : Int) by omega]
    exact ih
theorem half16 {a : Int} (h : -32768 ≤ a ∧ a ≤ 32767) : -32768 ≤ IntKind.i16.wrap (Int.tdiv a 2) ∧ IntKind.i16.wrap (Int.tdiv a 2) ≤ 32768 := by
  simp only [IntKind.wrap, IntKind.bits, IntKind.signed, IntKind.min, IntKind.max]
  simp
  omega
theorem u8_wf' {x : Int} (h : (Lit.int .u8 x).wf = true) : 0 ≤ x ∧ x ≤ 255 := u8_wf h
theorem CalendarShift : transposallaw08_CalendarShift.Pure := by
  intro a0 l1 a2 a3 b0 h1 _ w1 b2 b3
  have c0 := half16 (i16_wf b0)
  obtain ⟨a, ea⟩ : ∃ a, IntKind.i16.wrap (Int.tdiv a0 2) = a := ⟨_, rfl⟩
  rw [ea] at c0
  obtain ⟨s, e, M, hM⟩ := makeC_eq (a := a) (by omega) h1 w1
  have hl := M.len
  have hs0 : 0 < s.length := by omega
  have hlow := M.low s[0] (List.getElem_mem hs0)
  have hend := M.end_
  have c3 := u8_wf b3
  obtain ⟨K, hK⟩ : ∃ K : Nat, 60000 ≤ K := ⟨60000, Nat.le_refl _⟩
  refine ⟨K, ?_⟩
  unfold transposallaw08_CalendarShift.f
  rw [awake8 K (by omega) (awake7 K (by omega)), ea]
  simp only [Option.bind_some, if_true]
  rw [hM K (by omega)]
  simp only [Option.bind_some]
  rw [w32 (x := a3) (by omega) (by omega), w32 (x := e + a3) (by omega) (by omega)]
  exact shift_go M c0 (i16_wf b2) c3 s.length 0 (by omega) K (by omega)
end Go.Proofs.YtfpfilmdlconhaaGreatDoor.Pure
