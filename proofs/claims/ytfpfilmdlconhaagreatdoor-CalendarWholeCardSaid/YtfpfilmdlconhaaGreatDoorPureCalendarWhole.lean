/- CalendarWhole, as its pure statement. No conditions. -/
import Derived.Test.YtfpfilmdlconhaaGreatDoorXA12
import Derived.Test.YtfpfilmdlconhaaGreatDoorPAwake7
import Derived.Test.YtfpfilmdlconhaaGreatDoorPCal
namespace Go.Proofs.YtfpfilmdlconhaaGreatDoor.Pure
open Go.RowKit Go.Proofs.YtfpfilmdlconhaaGreatDoorW.PrintWords Go.Proofs.YtfpfilmdlconhaaGreatDoorW.PrintLast Go.Proofs.YtfpfilmdlconhaaGreatDoor.XA Go.Proofs.YtfpfilmdlconhaaGreatDoor.PInts Go.Proofs.YtfpfilmdlconhaaGreatDoor.PCal
set_option linter.unusedVariables false
set_option linter.unusedSimpArgs false
/-- One day later so many begin, or one more. -/
theorem AtC.next {s : List Int} (S : SI s) {d : Int} {c c' : Nat} (A : AtC s d c) (B : AtC s (d + 1) c') : c ≤ c' ∧ c' ≤ c + 1 := by
  obtain ⟨a1, a2, a3⟩ := A
  obtain ⟨b1, b2, b3⟩ := B
  constructor
  · rcases Nat.lt_or_ge c' c with h | h
    · have x1 := b3 c' (by omega) (Nat.le_refl _)
      have x2 := a2 c' (by omega) h
      omega
    · exact h
  · rcases Nat.lt_or_ge (c + 1) c' with h | h
    · have x1 := b2 (c + 1) (by omega) h
      have x2 := b2 c (by omega) (by omega)
      have x3 := a3 c (by omega) (Nat.le_refl _)
      have x4 := S.lt (show c + 1 < s.length by omega) (show c < c + 1 by omega)
      omega
    · exact h
theorem whole_go {a : Int} {s : List Int} {e : Int} (M : MadeC a s e) (ha : -100000 ≤ a ∧ a ≤ 100000) : ∀ (q : Nat) (d : Int) (last : Nat), (q : Int) + d = e → a ≤ d → (last : Int) ≤ 100 → (∀ c, AtC s d c → d < e → 1 ≤ c ∧ last ≤ c - 1 ∧ c - 1 ≤ last + 1) → (d = a → last = 0) → (d = e → last + 1 = s.length) → (d = a ∨ ∃ c, AtC s (d - 1) c ∧ last + 1 = c) → ∀ k, 1100 + q < k → transposallaw08_CalendarWhole.l0 k (last : Int) d s e = some true
  | 0, d, last, h, hd, hl, hc, h0, he, hp, k, hk => by
    obtain ⟨k, rfl⟩ : ∃ k', k = k' + 1 := ⟨k - 1, by omega⟩
    have := he (by omega)
    have hlen := M.len
    simp only [transposallaw08_CalendarWhole.l0]
    rw [if_neg (by omega)]
    unfold calendar_Calendar_Len.f
    simp only [Option.bind_some]
    rw [w64 (by omega) (by omega)]
    have e1 : ((last : Int) == (s.length : Int) - 1) = true := by simp; omega
    rw [e1]
  | q + 1, d, last, h, hd, hl, hc, h0, he, hp, k, hk => by
    obtain ⟨k, rfl⟩ : ∃ k', k = k' + 1 := ⟨k - 1, by omega⟩
    have hlen := M.len
    have hend := M.end_
    obtain ⟨c, A, hcp⟩ := Period_eq M.si (by omega) d
    obtain ⟨c1, c2, c3⟩ := hc c A (by omega)
    have hA := A
    obtain ⟨a1, a2, a3⟩ := hA
    obtain ⟨c', B, _⟩ := Period_eq M.si (by omega) (d + 1)
    obtain ⟨n1, n2⟩ := AtC.next M.si A B
    have hhead := M.head
    have hs0 : 0 < s.length := by omega
    have hrd0 : rd s 0 = s[0] := by rw [show (0 : Int) = ((0 : Nat) : Int) from rfl, rd_get hs0]
    have ih := whole_go M ha q (d + 1) (c - 1) (by omega) (by omega) (by omega) (fun c2' B' hlt => by
      have := B.one B'
      omega) (by omega) (fun hE => by
      -- behind the last day all have begun
      have hlow := M.low s[s.length - 1] (List.getElem_mem (by omega))
      rcases Nat.lt_or_ge c s.length with hlt | hge
      · have x1 := a3 (s.length - 1) (by omega) (by omega)
        omega
      · omega) (.inr ⟨c, by rw [show d + 1 - 1 = d by omega]; exact A, by omega⟩) k (by omega)
    simp only [transposallaw08_CalendarWhole.l0]
    rw [if_pos (by omega), hcp e k (by omega)]
    simp only [Option.bind_some]
    have hin : inPeriod c e d = ((c : Int) - 1, true) := if_neg (by omega)
    rw [hin]
    simp only [if_true]
    rw [if_neg (by omega), w64 (x := (last : Int) + 1) (by omega) (by omega), if_neg (by omega), if_pos (by omega), hhead, show (c : Int) - 1 = ((c - 1 : Nat) : Int) by omega, w32 (by omega) (by omega)]
    by_cases hda : d = a
    · have hc1 : c = 1 := by
        rcases Nat.lt_or_ge 1 c with h2 | h2
        · have x1 := a2 1 (by omega) h2
          have x2 := M.si.lt (show 1 < s.length by omega) (show 0 < 1 by omega)
          omega
        · omega
      rw [if_pos hda, if_pos (by omega)]
      exact ih
    · rw [if_neg hda]
      exact ih
theorem CalendarWhole : transposallaw08_CalendarWhole.Pure := by
  intro a0 l1 b0 h1 _ h2
  obtain ⟨c1, c2⟩ := i16_wf b0
  obtain ⟨s, e, M, hM⟩ := makeC_eq (a := a0) (by omega) h1 h2
  have hl := M.len
  have hs0 : 0 < s.length := by omega
  have hhead := M.head
  have hlow := M.low s[0] (List.getElem_mem hs0)
  have hend := M.end_
  have hrd0 : rd s 0 = s[0] := by rw [show (0 : Int) = ((0 : Nat) : Int) from rfl, rd_get hs0]
  obtain ⟨K, hK⟩ : ∃ K : Nat, 60000 ≤ K := ⟨60000, Nat.le_refl _⟩
  refine ⟨K, ?_⟩
  unfold transposallaw08_CalendarWhole.f
  rw [awake8 K (by omega) (awake7 K (by omega))]
  simp only [Option.bind_some, if_true]
  rw [hM K (by omega)]
  simp only [Option.bind_some]
  rw [if_pos (by omega), hhead]
  refine whole_go M (by omega) (e - a0).toNat a0 0 (by omega) (by omega) (by omega) (fun c A hlt => ?_) (fun _ => rfl) (fun h => by omega) (.inl rfl) K (by omega)
  obtain ⟨x1, x2, x3⟩ := A
  have h1 : 1 ≤ c := by
    rcases Nat.eq_zero_or_pos c with h | h
    · have := x3 0 hs0 (by omega)
      omega
    · exact h
  have h2 : c ≤ 1 := by
    rcases Nat.lt_or_ge 1 c with h2 | h2
    · have y1 := x2 1 (by omega) h2
      have y2 := M.si.lt (show 1 < s.length by omega) (show 0 < 1 by omega)
      omega
    · exact h2
  omega
end Go.Proofs.YtfpfilmdlconhaaGreatDoor.Pure
