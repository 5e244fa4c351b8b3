/- EntryTurns' statement without Go: lines in another order, and of the other sign, are checked alike. -/
import Derived.Test.YtddaogebacigbaaGreatDoorXA12
import Derived.Test.YtddaogebacigbaaGreatDoorPLine
import Derived.Test.YtddaogebacigbaaGreatDoorPTurns
namespace Go.Proofs.YtddaogebacigbaaGreatDoor.Pure
open Go.RowKit Go.Proofs.YtddaogebacigbaaGreatDoorW.PrintWords Go.Proofs.YtddaogebacigbaaGreatDoorW.PrintLast Go.Proofs.YtddaogebacigbaaGreatDoor.XA Go.Proofs.YtddaogebacigbaaGreatDoor.PInts Go.Proofs.YtddaogebacigbaaGreatDoor.PCal Go.Proofs.YtddaogebacigbaaGreatDoor.PLine Go.Proofs.YtddaogebacigbaaGreatDoor.PWide
set_option linter.unusedVariables false
set_option linter.unusedSimpArgs false
theorem allNone_of {a b : List TL} (h1 : ∀ x ∈ a, ∃ y ∈ b, y.f1 = x.f1) (h2 : ∀ x ∈ b, ∃ y ∈ a, y.f1 = x.f1) (h : ∀ n, XMap.sumOf wadd (jsum b) n = (0, 0) ↔ XMap.sumOf wadd (jsum a) n = (0, 0)) : XMap.allNone wadd (jsum a) = XMap.allNone wadd (jsum b) := by
  have key : ∀ c d : List TL, (∀ x ∈ d, ∃ y ∈ c, y.f1 = x.f1) → (∀ n, XMap.sumOf wadd (jsum c) n = (0, 0) → XMap.sumOf wadd (jsum d) n = (0, 0)) → XMap.allNone wadd (jsum c) = true → XMap.allNone wadd (jsum d) = true := by
    intro c d hx hs hc
    unfold XMap.allNone at hc ⊢
    rw [List.all_eq_true] at hc ⊢
    intro p hp
    obtain ⟨x, hx1, rfl⟩ := List.mem_map.1 hp
    obtain ⟨y, hy, e⟩ := hx x hx1
    have h3 := hc (y.f1, wof y.f3) (List.mem_map_of_mem hy)
    rw [beq_iff_eq] at h3 ⊢
    dsimp only at h3 ⊢
    rw [e] at h3
    exact hs _ h3
  rw [Bool.eq_iff_iff]
  exact ⟨key a b h2 (fun n => (h n).2), key b a h1 (fun n => (h n).1)⟩
theorem check_alike {a b : List TL} {t : ByteArray} {k : Nat} (ht : day_Day_Text.f k 0 = some t) (hl : a.length = b.length) (hu : (a.all (fun x => (Lit.int .u16 x.f1).wf)) = (b.all (fun x => (Lit.int .u16 x.f1).wf))) (hb : a.any badLine = b.any badLine) (hn : XMap.allNone wadd (jsum a) = XMap.allNone wadd (jsum b)) : entry_Journal_Check.f k 0 a = entry_Journal_Check.f k 0 b := by
  unfold entry_Journal_Check.f
  rw [ht, hl, hu, hb, hn]
theorem check_some {a : List TL} {t : ByteArray} {k : Nat} (ht : day_Day_Text.f k 0 = some t) (hu : (a.all (fun x => (Lit.int .u16 x.f1).wf)) = true) : ∃ p, entry_Journal_Check.f k 0 a = some p := by
  unfold entry_Journal_Check.f
  rw [ht]
  simp only [Option.bind_some]
  rw [if_pos hu]
  exact ⟨_, rfl⟩
theorem EntryTurns : transposallaw09_EntryTurns.Pure := by
  intro l a hl0 hw ha
  have ha' : 0 ≤ a ∧ a ≤ 255 := by
    simp [Lit.wf, IntKind.min, IntKind.max, IntKind.bits, IntKind.signed] at ha
    exact ha
  obtain ⟨K, hK⟩ : ∃ K : Nat, 60000 ≤ K := ⟨60000, Nat.le_refl _⟩
  refine ⟨K, ?_⟩
  unfold transposallaw09_EntryTurns.f
  rw [awake9 K (by omega) (awake8 K (by omega) (awake7 K (by omega)))]
  simp only [Option.bind_some, if_true]
  by_cases h30 : l.length > 30
  · rw [if_pos h30]
  rw [if_neg h30]
  by_cases h0 : l.length = 0
  · rw [if_pos h0]
  rw [if_neg h0]
  have hu : ∀ x ∈ l, (Lit.int .u16 x.f1).wf = true := fun x hx => (hw x hx).2.1
  have hi : ∀ x ∈ l, (Lit.int .i64 x.f3).wf = true := fun x hx => (hw x hx).2.2.2
  rw [if_pos (by
    rw [Bool.and_eq_true, List.all_eq_true, decide_eq_true_iff]
    exact ⟨fun x hx => by rw [hu x hx, hi x hx]; rfl, ha'⟩)]
  cases hm : l.any (fun x => x.f3 == -9223372036854775808) with
  | true => rw [if_pos rfl]
  | false =>
    rw [if_neg Bool.false_ne_true]
    have hne : ∀ x ∈ l, x.f3 ≠ -9223372036854775808 := fun x hx => beq_eq_false_iff_ne.1 (by
      rw [List.any_eq_false] at hm
      exact (Bool.not_eq_true _).mp (hm x hx))
    have hm0 := Int.tmod_nonneg (l.length : Int) ha'.1
    have hm1 := Int.tmod_lt_of_pos a (show (0 : Int) < (l.length : Int) by omega)
    generalize (Int.tmod a (l.length : Int)).toNat = i
    have hg : good 0 := by unfold good; omega
    obtain ⟨t, ht, _⟩ := text_good hg K (by omega)
    have hua : l.all (fun x => (Lit.int .u16 x.f1).wf) = true := List.all_eq_true.2 hu
    obtain ⟨p, hp⟩ := check_some (a := l) ht hua
    have e1 : entry_Journal_Check.f K 0 (l.drop i ++ l.take i) = entry_Journal_Check.f K 0 l := by
      refine check_alike ht ?_ ?_ ?_ ?_
      · rw [List.length_append, List.length_drop, List.length_take]
        omega
      · rw [hua]
        exact List.all_eq_true.2 (fun x hx => hu x ((List.mem_append.1 hx).elim List.mem_of_mem_drop List.mem_of_mem_take))
      · conv => rhs; rw [← List.take_append_drop i l]
        rw [List.any_append, List.any_append, Bool.or_comm]
      · refine allNone_of (fun x hx => ⟨x, (List.mem_append.1 hx).elim List.mem_of_mem_drop List.mem_of_mem_take, rfl⟩) (fun x hx => ⟨x, ?_, rfl⟩) (fun n => by rw [turn_swap l i hi n])
        rw [← List.take_append_drop i l] at hx
        exact List.mem_append.2 ((List.mem_append.1 hx).symm)
    have e2 : entry_Journal_Check.f K 0 (l.map negL) = entry_Journal_Check.f K 0 l := by
      refine check_alike ht (List.length_map _) ?_ ?_ ?_
      · rw [hua]
        exact List.all_eq_true.2 (fun x hx => by obtain ⟨y, hy, rfl⟩ := List.mem_map.1 hx; exact hu y hy)
      · rw [List.any_map]
        have hb : ∀ x ∈ l, (badLine ∘ negL) x = badLine x := by
          intro x hx
          have h1 := hne x hx
          have h2 := i64_in (hi x hx)
          show ((-x.f3 == 0) || (-x.f3 == -9223372036854775808)) = ((x.f3 == 0) || (x.f3 == -9223372036854775808))
          rw [Bool.eq_iff_iff]
          simp only [Bool.or_eq_true, beq_iff_eq]
          omega
        rw [Bool.eq_iff_iff, List.any_eq_true, List.any_eq_true]
        exact ⟨fun ⟨x, hx, h⟩ => ⟨x, hx, by rw [← hb x hx]; exact h⟩, fun ⟨x, hx, h⟩ => ⟨x, hx, by rw [hb x hx]; exact h⟩⟩
      · refine allNone_of (fun x hx => ?_) (fun x hx => ⟨negL x, List.mem_map_of_mem hx, rfl⟩) (fun n => ?_)
        · obtain ⟨y, hy, rfl⟩ := List.mem_map.1 hx
          exact ⟨y, hy, rfl⟩
        · rw [turn_neg l hi hne n]
          exact (wneg_zero (turn_in l hi n)).symm
    rw [hp, e1, e2, hp]
    simp
end Go.Proofs.YtddaogebacigbaaGreatDoor.Pure
