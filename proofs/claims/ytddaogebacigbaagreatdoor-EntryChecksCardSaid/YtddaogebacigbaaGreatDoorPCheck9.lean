/- The two checks of a journal answer alike. -/
import Derived.Test.YtddaogebacigbaaGreatDoorXA13
import Derived.Test.YtddaogebacigbaaGreatDoorXA14
import Derived.Test.YtddaogebacigbaaGreatDoorXA4
import Derived.Test.YtddaogebacigbaaGreatDoorPLine
import Derived.Test.YtddaogebacigbaaGreatDoorPTurns
namespace Go.Proofs.YtddaogebacigbaaGreatDoor.PCheck9
open Go.RowKit Go.Proofs.YtddaogebacigbaaGreatDoorW.PrintWords Go.Proofs.YtddaogebacigbaaGreatDoorW.PrintLast Go.Proofs.YtddaogebacigbaaGreatDoor.XA Go.Proofs.YtddaogebacigbaaGreatDoor.PInts Go.Proofs.YtddaogebacigbaaGreatDoor.PCal Go.Proofs.YtddaogebacigbaaGreatDoor.PLine Go.Proofs.YtddaogebacigbaaGreatDoor.PWide
set_option linter.unusedVariables false
set_option linter.unusedSimpArgs false
def WfL (l : List TL) : Prop := ∀ x ∈ l, (Lit.int .u16 x.f1).wf = true ∧ (Lit.int .i64 x.f3).wf = true
theorem low_eq (k : Nat) (hk : 30000 ≤ k) : transposallaw04_Number.f k 1 1 1 = some (-719162) := by
  have h := PDay.number_eq (y := 1) (m := 1) (d := 1) (by omega) (by omega) (by omega) (by omega) (by omega) (by omega) k hk
  rw [DayMath.num_first] at h
  exact h
theorem high_eq (k : Nat) (hk : 30000 ≤ k) : transposallaw04_Number.f k 9999 12 31 = some 2932896 := by
  have h := PDay.number_eq (y := 9999) (m := 12) (d := 31) (by omega) (by omega) (by omega) (by omega) (by omega) (by omega) k hk
  rw [DayMath.num_last] at h
  exact h
theorem checks_alike (d : Int) (l : List TL) (hd : -2147483648 ≤ d ∧ d ≤ 2147483647) (hl : WfL l) (k : Nat) (hk : 30000 ≤ k) : ∃ p, entry_Journal_Check.f k d l = some p ∧ transposallaw09_Check.f k d l = some p := by
  have h1 : l.all (fun x => (Lit.int .u16 x.f1).wf) = true := List.all_eq_true.2 (fun x hx => (hl x hx).1)
  have h2 : (l.all (fun x => (Lit.int .u16 x.f1).wf && (Lit.int .i64 x.f3).wf) && decide (-2147483648 ≤ d ∧ d ≤ 2147483647)) = true := by
    rw [Bool.and_eq_true, List.all_eq_true, decide_eq_true_iff]
    exact ⟨fun x hx => by rw [(hl x hx).1, (hl x hx).2]; rfl, hd⟩
  unfold entry_Journal_Check.f transposallaw09_Check.f
  rw [low_eq k hk, high_eq k hk]
  simp only [Option.bind_some]
  rw [if_pos h2]
  by_cases hg : good d
  · obtain ⟨t, ht, hne⟩ := text_good hg k (by omega)
    unfold good at hg
    rw [ht]
    simp only [Option.bind_some]
    rw [if_pos h1, if_neg hne]
    refine ⟨_, rfl, ?_⟩
    rw [if_neg (show ¬ d < -719162 by omega), if_neg (show ¬ d > 2932896 by omega)]
  · rw [text_bad hg k (by omega)]
    unfold good at hg
    simp only [Option.bind_some]
    rw [if_pos h1, if_pos (by rw [PDay.toList_data])]
    refine ⟨13, rfl, ?_⟩
    by_cases h : d < -719162
    · rw [if_pos h]
    · rw [if_neg h, if_pos (by omega)]
end Go.Proofs.YtddaogebacigbaaGreatDoor.PCheck9
