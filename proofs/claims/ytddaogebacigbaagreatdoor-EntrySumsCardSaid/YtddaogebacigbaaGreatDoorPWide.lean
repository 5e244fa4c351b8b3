/- Wide numbers as numbers modulo 2^128: sums do not hang on their order; the other sign. -/
import Derived.Test.YtddaogebacigbaaGreatDoorXA3
import Derived.Test.YtddaogebacigbaaGreatDoorXA4
import Derived.Test.YtddaogebacigbaaGreatDoorXA7
import Derived.Laws.BitsAllLaws
namespace Go.Proofs.YtddaogebacigbaaGreatDoor.PWide
open Go.RowKit Go.Proofs.YtddaogebacigbaaGreatDoorW.PrintWords Go.Proofs.YtddaogebacigbaaGreatDoorW.PrintLast Go.Proofs.YtddaogebacigbaaGreatDoor.XA Go.Proofs.YtddaogebacigbaaGreatDoor.XMap
set_option linter.unusedVariables false
set_option linter.unusedSimpArgs false
theorem u64w (x : Int) : IntKind.u64.wrap x = x % 18446744073709551616 := rfl
def InR (x : Int × Int) : Prop := -9223372036854775808 ≤ x.1 ∧ x.1 < 9223372036854775808 ∧ 0 ≤ x.2 ∧ x.2 < 18446744073709551616
def N (x : Int × Int) : Int := (x.1 * 18446744073709551616 + x.2) % 340282366920938463463374607431768211456
theorem N_inj {x y : Int × Int} (hx : InR x) (hy : InR y) (h : N x = N y) : x = y := by
  obtain ⟨a, b⟩ := x
  obtain ⟨c, d⟩ := y
  unfold InR at hx hy
  unfold N at h
  dsimp only at hx hy h
  have h1 : a = c := by omega
  subst h1
  have h2 : b = d := by omega
  rw [h2]
theorem add_spec {x y : Int × Int} (hx : InR x) (hy : InR y) : InR (wadd x y) ∧ N (wadd x y) = (N x + N y) % 340282366920938463463374607431768211456 := by
  obtain ⟨a, b⟩ := x
  obtain ⟨c, d⟩ := y
  unfold wadd wide_Add.f
  simp only [u64w, wrap64] at *
  unfold InR at *
  unfold N
  dsimp only at hx hy ⊢
  split
  · rename_i h
    simp only [Option.getD_some]
    omega
  · rename_i h
    simp only [Option.getD_some]
    omega
theorem of_spec {n : Int} (hn : -9223372036854775808 ≤ n ∧ n < 9223372036854775808) : InR (wof n) ∧ N (wof n) = n % 340282366920938463463374607431768211456 := by
  show InR (n / 9223372036854775808, IntKind.u64.wrap n) ∧ N (n / 9223372036854775808, IntKind.u64.wrap n) = _
  rw [u64w]
  unfold InR N
  dsimp only
  by_cases h : n < 0
  · rw [show n / 9223372036854775808 = -1 by omega]
    omega
  · rw [show n / 9223372036854775808 = 0 by omega]
    omega
theorem zero_spec : InR (0, 0) ∧ N (0, 0) = 0 := by
  unfold InR N
  dsimp only
  omega
def AllIn (l : List (Int × (Int × Int))) : Prop := ∀ x ∈ l, InR x.2
/-- Of one key the plain sum. -/
def S : List (Int × (Int × Int)) → Int → Int
  | [], _ => 0
  | x :: l, n => (if x.1 = n then N x.2 else 0) + S l n
theorem S_append (n : Int) : ∀ a b, S (a ++ b) n = S a n + S b n
  | [], b => by simp [S]
  | x :: a, b => by
    rw [List.cons_append, S, S, S_append n a b]
    omega
theorem fold_spec (n : Int) : ∀ (l : List (Int × (Int × Int))) (s : Int × Int), AllIn l → InR s → InR (l.foldl (fun s x => if x.1 = n then wadd s x.2 else s) s) ∧ N (l.foldl (fun s x => if x.1 = n then wadd s x.2 else s) s) = (N s + S l n) % 340282366920938463463374607431768211456
  | [], s, _, hs => by
    refine ⟨hs, ?_⟩
    show N s = (N s + 0) % _
    unfold N
    omega
  | x :: l, s, hl, hs => by
    have hx := hl x List.mem_cons_self
    have hl' : AllIn l := fun y hy => hl y (List.mem_cons_of_mem _ hy)
    rw [List.foldl_cons, S]
    by_cases e : x.1 = n
    · rw [if_pos e, if_pos e]
      obtain ⟨h1, h2⟩ := add_spec hs hx
      obtain ⟨h3, h4⟩ := fold_spec n l _ hl' h1
      refine ⟨h3, ?_⟩
      rw [h4, h2]
      omega
    · rw [if_neg e, if_neg e]
      obtain ⟨h3, h4⟩ := fold_spec n l _ hl' hs
      refine ⟨h3, ?_⟩
      rw [h4]
      omega
theorem sumOf_spec {l : List (Int × (Int × Int))} (hl : AllIn l) (n : Int) : InR (sumOf wadd l n) ∧ N (sumOf wadd l n) = S l n % 340282366920938463463374607431768211456 := by
  obtain ⟨h1, h2⟩ := fold_spec n l (0, 0) hl zero_spec.1
  refine ⟨h1, ?_⟩
  unfold sumOf
  rw [h2, zero_spec.2]
  omega
/-- Two parts in the other order: the same sums. -/
theorem sumOf_swap {a b : List (Int × (Int × Int))} (ha : AllIn a) (hb : AllIn b) (n : Int) : sumOf wadd (b ++ a) n = sumOf wadd (a ++ b) n := by
  have h1 : AllIn (a ++ b) := fun x hx => (List.mem_append.1 hx).elim (ha x) (hb x)
  have h2 : AllIn (b ++ a) := fun x hx => (List.mem_append.1 hx).elim (hb x) (ha x)
  refine N_inj (sumOf_spec h2 n).1 (sumOf_spec h1 n).1 ?_
  rw [(sumOf_spec h2 n).2, (sumOf_spec h1 n).2, S_append, S_append, Int.add_comm]
/-! ### the other sign -/
theorem not64 (a : Int) (h : -9223372036854775808 ≤ a ∧ a < 9223372036854775808) : bits .xor .i64 (-1) a = -1 - a := by
  show IntKind.i64.wrap ((BitVec.ofInt 64 (-1) ^^^ BitVec.ofInt 64 a).toNat : Int) = _
  have h1 : BitVec.ofInt 64 (-1) = BitVec.allOnes 64 := by decide
  rw [h1, BitVec.allOnes_xor, BitVec.toNat_not, BitVec.toNat_ofInt]
  simp only [IntKind.wrap, IntKind.bits, IntKind.signed]
  simp
  omega
theorem notu64 (a : Int) (h : 0 ≤ a ∧ a < 18446744073709551616) : bits .xor .u64 18446744073709551615 a = 18446744073709551615 - a := by
  show IntKind.u64.wrap ((BitVec.ofInt 64 18446744073709551615 ^^^ BitVec.ofInt 64 a).toNat : Int) = _
  have h1 : BitVec.ofInt 64 18446744073709551615 = BitVec.allOnes 64 := by decide
  rw [h1, BitVec.allOnes_xor, BitVec.toNat_not, BitVec.toNat_ofInt]
  simp only [IntKind.wrap, IntKind.bits, IntKind.signed]
  simp
  omega
def wneg (x : Int × Int) : Int × Int := wadd (-1 - x.1, 18446744073709551615 - x.2) (0, 1)
theorem wneg_is {x : Int × Int} (hx : InR x) : wide_Neg.f x.1 x.2 = some ((wneg x).1, (wneg x).2) := by
  unfold InR at hx
  unfold wide_Neg.f wneg
  rw [not64 x.1 (by omega), notu64 x.2 (by omega), wadd_is (-1 - x.1, 18446744073709551615 - x.2) (0, 1)]
  rfl
theorem neg_spec {x : Int × Int} (hx : InR x) : InR (wneg x) ∧ N (wneg x) = (-N x) % 340282366920938463463374607431768211456 := by
  unfold InR at hx
  obtain ⟨h1, h2⟩ := add_spec (x := (-1 - x.1, 18446744073709551615 - x.2)) (y := (0, 1)) (by unfold InR; dsimp only; omega) (by unfold InR; dsimp only; omega)
  refine ⟨h1, h2.trans ?_⟩
  unfold N
  dsimp only
  omega
/-- All with the other sign: the sums have the other sign. -/
theorem S_neg (n : Int) (g : Int × (Int × Int) → Int × (Int × Int)) : ∀ l : List (Int × (Int × Int)), (∀ x ∈ l, (g x).1 = x.1 ∧ N (g x).2 = (-N x.2) % 340282366920938463463374607431768211456) → (S (l.map g) n) % 340282366920938463463374607431768211456 = (-S l n) % 340282366920938463463374607431768211456
  | [], _ => rfl
  | x :: l, h => by
    have h1 := S_neg n g l (fun y hy => h y (List.mem_cons_of_mem _ hy))
    obtain ⟨h2, h3⟩ := h x List.mem_cons_self
    rw [List.map_cons, S, S, h2]
    by_cases e : x.1 = n
    · rw [if_pos e, if_pos e, h3]
      omega
    · rw [if_neg e, if_neg e]
      omega
theorem sumOf_neg {l : List (Int × (Int × Int))} (hl : AllIn l) (g : Int × (Int × Int) → Int × (Int × Int)) (hg : AllIn (l.map g)) (h : ∀ x ∈ l, (g x).1 = x.1 ∧ N (g x).2 = (-N x.2) % 340282366920938463463374607431768211456) (n : Int) : sumOf wadd (l.map g) n = wneg (sumOf wadd l n) := by
  have h1 := sumOf_spec hl n
  refine N_inj (sumOf_spec hg n).1 (neg_spec h1.1).1 ?_
  rw [(sumOf_spec hg n).2, (neg_spec h1.1).2, h1.2, S_neg n g l h]
  omega
theorem wneg_zero {x : Int × Int} (hx : InR x) : wneg x = (0, 0) ↔ x = (0, 0) := by
  have h := neg_spec hx
  constructor
  · intro e
    refine N_inj hx zero_spec.1 ?_
    rw [e, zero_spec.2] at h
    have h2 := h.2
    rw [zero_spec.2]
    unfold N at h2 ⊢
    omega
  · rintro rfl
    kernel_rfl
end Go.Proofs.YtddaogebacigbaaGreatDoor.PWide
