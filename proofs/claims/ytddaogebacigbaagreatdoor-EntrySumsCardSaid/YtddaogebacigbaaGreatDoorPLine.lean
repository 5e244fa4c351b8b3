/- Lines of journals: the same? The laws' wakefulness, up to 09. -/
import Derived.Test.YtddaogebacigbaaGreatDoorXA10
import Derived.Test.YtddaogebacigbaaGreatDoorXA4
import Derived.Test.YtddaogebacigbaaGreatDoorPAwake7
import Derived.Test.YtddaogebacigbaaGreatDoorPCal
namespace Go.Proofs.YtddaogebacigbaaGreatDoor.PLine
open Go.RowKit Go.Proofs.YtddaogebacigbaaGreatDoorW.PrintWords Go.Proofs.YtddaogebacigbaaGreatDoorW.PrintLast Go.Proofs.YtddaogebacigbaaGreatDoor.XA Go.Proofs.YtddaogebacigbaaGreatDoor.PInts Go.Proofs.YtddaogebacigbaaGreatDoor.PCal
set_option linter.unusedVariables false
set_option linter.unusedSimpArgs false
abbrev Ln := S28
theorem rdl_get {l : List Ln} {i : Nat} (h : i < l.length) : rd_T28 l (i : Int) = l[i] := by
  show l.getD (i : Int).toNat _ = _
  rw [Int.toNat_natCast, List.getD_eq_getElem?_getD, List.getElem?_eq_getElem h]
  rfl
theorem eqb (x y : Ln) : (x.f0 == y.f0 && (x.f1 == y.f1 && (x.f2 == y.f2 && (x.f3 == y.f3)))) = true ↔ x = y := by
  obtain ⟨a, b, c, d⟩ := x
  obtain ⟨a', b', c', d'⟩ := y
  simp only [Bool.and_eq_true, beq_iff_eq, S28.mk.injEq]
theorem neb (x y : Ln) : (!(x.f0 == y.f0) || (!(x.f1 == y.f1) || (!(x.f2 == y.f2) || (!(x.f3 == y.f3))))) = !((x.f0 == y.f0 && (x.f1 == y.f1 && (x.f2 == y.f2 && (x.f3 == y.f3))))) := by
  rw [Bool.not_and, Bool.not_and, Bool.not_and]
theorem lines_go (a b : List Ln) (hl : a.length = b.length) (hb : a.length ≤ 1000) : ∀ (d i : Nat), d + i = a.length → ∀ k, d < k → entry_Line_48.l0 k a b (a.length : Int) (i : Int) = some true ∨ entry_Line_48.l0 k a b (a.length : Int) (i : Int) = some false ∧ a.drop i ≠ b.drop i ∧ True
  | _, _, _, 0, hk => absurd hk (Nat.not_lt_zero _)
  | 0, i, h, k + 1, hk => by
    left
    simp only [entry_Line_48.l0]
    rw [if_neg (by omega)]
  | d + 1, i, h, k + 1, hk => by
    have h1 : i < a.length := by omega
    have h2 : i < b.length := by omega
    simp only [entry_Line_48.l0]
    rw [if_pos (by omega), if_pos (by omega), if_pos (by omega), if_pos (by omega), rdl_get h1, rdl_get h2, neb, List.drop_eq_getElem_cons h1, List.drop_eq_getElem_cons h2]
    by_cases e : a[i] = b[i]
    · rw [(eqb _ _).2 e, if_neg (by decide), w64 (by omega) (by omega), show ((i : Int) + 1) = ((i + 1 : Nat) : Int) by omega]
      rcases lines_go a b hl hb d (i + 1) (by omega) k (by omega) with h3 | ⟨h3, h4, _⟩
      · exact .inl h3
      · exact .inr ⟨h3, fun h => h4 (List.cons.inj h).2, trivial⟩
    · right
      rw [show (a[i].f0 == b[i].f0 && (a[i].f1 == b[i].f1 && (a[i].f2 == b[i].f2 && (a[i].f3 == b[i].f3)))) = false from (Bool.not_eq_true _).mp (fun h => e ((eqb _ _).1 h)), if_pos (by decide)]
      exact ⟨rfl, fun h => e (List.cons.inj h).1, trivial⟩
theorem lines_self (a : List Ln) (hb : a.length ≤ 1000) : ∀ (d i : Nat), d + i = a.length → ∀ k, d < k → entry_Line_48.l0 k a a (a.length : Int) (i : Int) = some true
  | _, _, _, 0, hk => absurd hk (Nat.not_lt_zero _)
  | 0, i, h, k + 1, hk => by
    simp only [entry_Line_48.l0]
    rw [if_neg (by omega)]
  | d + 1, i, h, k + 1, hk => by
    have h1 : i < a.length := by omega
    simp only [entry_Line_48.l0]
    rw [if_pos (by omega), if_pos (by omega), if_pos (by omega), if_pos (by omega), rdl_get h1, neb, (eqb _ _).2 rfl, if_neg (by decide), w64 (by omega) (by omega), show ((i : Int) + 1) = ((i + 1 : Nat) : Int) by omega]
    exact lines_self a hb d (i + 1) (by omega) k (by omega)
theorem lines_all (a b : List Ln) (hl : a.length = b.length) (hb : a.length ≤ 1000) : ∀ (d i : Nat), d + i = a.length → ∀ k, d < k → entry_Line_48.l0 k a b (a.length : Int) (i : Int) = some true → a.drop i = b.drop i
  | _, _, _, 0, hk, _ => absurd hk (Nat.not_lt_zero _)
  | 0, i, h, k + 1, hk, _ => by rw [List.drop_eq_nil_of_le (by omega), List.drop_eq_nil_of_le (by omega)]
  | d + 1, i, h, k + 1, hk, ht => by
    have h1 : i < a.length := by omega
    have h2 : i < b.length := by omega
    simp only [entry_Line_48.l0] at ht
    rw [if_pos (by omega), if_pos (by omega), if_pos (by omega), if_pos (by omega), rdl_get h1, rdl_get h2, neb] at ht
    by_cases e : a[i] = b[i]
    · rw [(eqb _ _).2 e, if_neg (by decide), w64 (by omega) (by omega), show ((i : Int) + 1) = ((i + 1 : Nat) : Int) by omega] at ht
      rw [List.drop_eq_getElem_cons h1, List.drop_eq_getElem_cons h2, e, lines_all a b hl hb d (i + 1) (by omega) k (by omega) ht]
    · rw [show (a[i].f0 == b[i].f0 && (a[i].f1 == b[i].f1 && (a[i].f2 == b[i].f2 && (a[i].f3 == b[i].f3)))) = false from (Bool.not_eq_true _).mp (fun h => e ((eqb _ _).1 h)), if_pos (by decide)] at ht
      cases ht
theorem lines_eq (a b : List Ln) (hb : a.length ≤ 1000) (k : Nat) (hk : 1001 ≤ k) : ∃ q : Bool, entry_Line_48.f k a b = some q ∧ (q = true ↔ a = b) := by
  unfold entry_Line_48.f
  by_cases hl : a.length = b.length
  · rw [if_pos (by omega)]
    rcases lines_go a b hl hb a.length 0 (by omega) k (by omega) with h | ⟨h, hn, _⟩
    · refine ⟨true, h, fun _ => ?_, fun _ => rfl⟩
      have := lines_all a b hl hb a.length 0 (by omega) k (by omega) h
      simpa using this
    · exact ⟨false, h, fun h => absurd h Bool.false_ne_true, fun e => absurd (by rw [e]) hn⟩
  · rw [if_neg (by omega)]
    exact ⟨false, rfl, fun h => absurd h Bool.false_ne_true, fun e => absurd (by rw [e]) hl⟩
theorem SameJ_eq (d e : Int) (a b : List Ln) (hb : a.length ≤ 1000) (k : Nat) (hk : 1001 ≤ k) : ∃ q : Bool, entry_Same.f k d a e b = some q ∧ (q = true ↔ d = e ∧ a = b) := by
  unfold entry_Same.f
  by_cases h : d = e
  · obtain ⟨q, h1, h2⟩ := lines_eq a b hb k hk
    rw [if_pos h, h1]
    exact ⟨q, rfl, fun h3 => ⟨h, h2.1 h3⟩, fun h3 => h2.2 h3.2⟩
  · rw [if_neg h]
    exact ⟨false, rfl, fun h => absurd h Bool.false_ne_true, fun e => absurd e.1 h⟩
theorem awake9 (k : Nat) (hk : 26010 ≤ k) (h8 : transposallaw08_Awake.f k = some true) : transposallaw09_Awake.f k = some true := by
  have hg : good 0 := by unfold good; omega
  obtain ⟨t, ht, hne⟩ := text_good hg k (by omega)
  unfold transposallaw09_Awake.f entry_Journal_Check.f
  rw [ht]
  simp only [Option.bind_some]
  rw [if_pos (by decide), if_neg hne, if_neg (by decide), if_neg (by decide), if_neg (by decide), if_pos (by kernel_rfl)]
  simp only [Option.bind_some]
  rw [if_pos trivial, h8]
  rfl
end Go.Proofs.YtddaogebacigbaaGreatDoor.PLine
