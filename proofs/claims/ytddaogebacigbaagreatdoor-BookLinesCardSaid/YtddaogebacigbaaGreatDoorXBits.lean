/- 128 bits as a row: of a number, of two numbers' sum; and back. No project text; no conditions. -/
import Derived.Test.YtddaogebacigbaaGreatDoorXMem
import Derived.ChangeKeysEq
import Derived.Laws.StructEq
namespace Go.Proofs.YtddaogebacigbaaGreatDoor.XBits
open Go Go.RowKit
set_option linter.unusedVariables false
def bit (n p : Nat) : Int := ((n / 2 ^ p % 2 : Nat) : Int)
theorem bit01 (n p : Nat) : 0 ≤ bit n p ∧ bit n p ≤ 1 := by unfold bit; omega
/-- 128 places, each by its number. -/
def row (f : Nat → Int) : List Int := (List.range 128).map f
def bitsN (n : Nat) : List Int := row (bit n)
def arr (l : List Int) : Array Value := (l.map (Value.int .i64)).toArray
theorem row_len (f : Nat → Int) : (row f).length = 128 := by simp [row]
theorem row_get (f : Nat → Int) (i : Nat) (h : i < 128) : (row f)[i]'(by rw [row_len]; exact h) = f i := by simp [row]
theorem row_get? (f : Nat → Int) (i : Nat) (h : i < 128) : (row f)[i]? = some (f i) := by
  rw [List.getElem?_eq_getElem (by rw [row_len]; exact h), row_get f i h]
theorem row_congr {f g : Nat → Int} (h : ∀ p, p < 128 → f p = g p) : row f = row g := List.map_congr_left (fun p hp => h p (List.mem_range.1 hp))
theorem arr_size (l : List Int) : (arr l).size = l.length := by simp [arr]
theorem arr_get (f : Nat → Int) (i : Nat) (h : i < 128) : (arr (row f))[i]? = some (.int .i64 (f i)) := by
  unfold arr
  rw [List.getElem?_toArray, List.getElem?_map, row_get? f i h]
  rfl
theorem arr_set (f : Nat → Int) (i : Nat) (v : Int) : (arr (row f)).setIfInBounds i (.int .i64 v) = arr (row (fun p => if p = i then v else f p)) := by
  apply Array.ext_getElem?
  intro j
  rw [Array.getElem?_setIfInBounds]
  by_cases hj : j < 128
  · rw [arr_get _ j hj, arr_get _ j hj]
    split
    · rename_i e
      subst e
      rw [if_pos rfl, if_pos (by rw [arr_size, row_len]; exact hj)]
    · rename_i e
      rw [if_neg (fun h => e h.symm)]
  · have n1 : ∀ g : Nat → Int, (arr (row g))[j]? = none := fun g => Array.getElem?_eq_none (by rw [arr_size, row_len]; omega)
    rw [n1, n1]
    split
    · rename_i e
      subst e
      rw [if_neg (by rw [arr_size, row_len]; exact hj)]
    · rfl
theorem arr_one (l : List Int) : ∀ v ∈ (arr l).toList, v.oneCell' = true := by
  intro v hv
  simp only [arr, List.mem_map] at hv
  obtain ⟨x, _, rfl⟩ := hv
  rfl
def zeros : List Int := row (fun _ => 0)
theorem setRow_at (w : World) (g : Nat) (cs : Array Value) {cur : Array Value} {e : TypeId} {fr : Nat × Nat} (h : w.heap[g]? = some (.cells cur e fr)) : (w.setRow g cs).heap[g]? = some (.cells cs e fr) := by
  unfold World.setRow
  simp only [Array.getElem?_modify, h]
  rfl
theorem row_whole {a b : Array Value} (h : a.size = b.size) : (List.take 0 b.toList ++ a.toList ++ List.drop (0 + a.size) b.toList).toArray = a := by
  rw [List.take_zero, List.nil_append, Nat.zero_add, h, List.drop_of_length_le (by rw [Array.length_toList]; exact Nat.le_refl _), List.append_nil]
theorem cast_div (n i : Nat) : (n : Int) / 2 ^ i = ((n / 2 ^ i : Nat) : Int) := by
  rw [Int.natCast_ediv, Int.natCast_pow]
  rfl
theorem eq_items {P : Program} (w : World) (d : Nat) {e : TypeId} {q : IntKind} (he : P.underlying e = some (.int q)) (f g : Nat → Int) : ∀ is : List Nat, (∀ i ∈ is, i < 128) →
    (Op.eqItems (d + 1) e 1 (arr (row f)) (arr (row g)) is).run P w = .ok (is.all (fun i => f i == g i)) w
  | [], _ => by simp [Op.eqItems]
  | i :: is, h => by
    have hp : P.plainKey e = true := by simp [Program.plainKey, he]
    have hi := h i List.mem_cons_self
    have ih := eq_items w d he f g is (fun j hj => h j (List.mem_cons_of_mem _ hj))
    simp only [Op.eqItems, Sem.run_bind, Nat.mul_one]
    rw [run_part_plain w hp (arr_get f i hi)]
    simp only [Result.andThen_ok]
    rw [run_part_plain w hp (arr_get g i hi)]
    simp only [Result.andThen_ok]
    rw [run_equalIn_int w d e .i64 q _ _ he]
    simp only [Result.andThen_ok, List.all_cons]
    cases hb : (f i == g i)
    · simp
    · simp [ih]
theorem eq_rows {P : Program} (w : World) (d : Nat) {t e : TypeId} {q : IntKind} {i : TypeInfo} (hu : P.underlying t = some (.array 128 e)) (hi : P.info? e = some i) (hc : P.cellsOf e = 1) (he : P.underlying e = some (.int q)) (f g : Nat → Int) :
    (Op.equalIn (d + 1 + 1) t (.agg (arr (row f))) (.agg (arr (row g)))).run P w = .ok ((List.range 128).all (fun i => f i == g i)) w := by
  rw [run_equalIn_array w (d + 1) _ _ hu hi, hc]
  exact eq_items w d he f g _ (fun i h => List.mem_range.1 h)
/-! ### numbers -/
theorem bit_zero (p : Nat) : bit 0 p = 0 := by unfold bit; simp
theorem two_pos (p : Nat) : 0 < 2 ^ p := Nat.pow_pos (by decide)
theorem bit_low (h l p : Nat) (hp : p < 64) : bit (h * 2 ^ 64 + l) p = ((l / 2 ^ p % 2 : Nat) : Int) := by
  unfold bit
  have e : h * 2 ^ 64 = 2 ^ p * (2 * (h * 2 ^ (63 - p))) := by
    rw [show (2 : Nat) ^ 64 = 2 ^ p * 2 * 2 ^ (63 - p) by rw [← Nat.pow_succ, ← Nat.pow_add]; congr 1; omega]
    ac_rfl
  rw [e, Nat.mul_add_div (two_pos p), Nat.mul_add_mod]
theorem bit_high (h l p : Nat) (hl : l < 2 ^ 64) : bit (h * 2 ^ 64 + l) (64 + p) = ((h / 2 ^ p % 2 : Nat) : Int) := by
  unfold bit
  rw [Nat.pow_add, ← Nat.div_div_eq_div_mul, Nat.mul_comm h, Nat.mul_add_div (two_pos 64), Nat.div_eq_of_lt hl, Nat.add_zero]
/-- What is carried to place i. -/
def carry (a b i : Nat) : Nat := (a % 2 ^ i + b % 2 ^ i) / 2 ^ i
theorem carry_zero (a b : Nat) : carry a b 0 = 0 := by
  unfold carry
  simp [Nat.mod_one]
theorem mod_step (a i : Nat) : a % 2 ^ (i + 1) = a % 2 ^ i + 2 ^ i * (a / 2 ^ i % 2) := by rw [Nat.pow_succ, Nat.mod_mul]
theorem carry_le (a b i : Nat) : carry a b i ≤ 1 := by
  unfold carry
  have h1 := Nat.mod_lt a (two_pos i)
  have h2 := Nat.mod_lt b (two_pos i)
  exact Nat.le_of_lt_succ (Nat.div_lt_of_lt_mul (by omega))
theorem carry_succ (a b i : Nat) : carry a b (i + 1) = (a / 2 ^ i % 2 + b / 2 ^ i % 2 + carry a b i) / 2 := by
  unfold carry
  rw [mod_step, mod_step, Nat.pow_succ, ← Nat.div_div_eq_div_mul]
  rw [show a % 2 ^ i + 2 ^ i * (a / 2 ^ i % 2) + (b % 2 ^ i + 2 ^ i * (b / 2 ^ i % 2)) = 2 ^ i * (a / 2 ^ i % 2 + b / 2 ^ i % 2) + (a % 2 ^ i + b % 2 ^ i) by rw [Nat.mul_add]; omega]
  rw [Nat.mul_add_div (two_pos i)]
theorem sum_bit (a b i : Nat) : (a + b) / 2 ^ i % 2 = (a / 2 ^ i % 2 + b / 2 ^ i % 2 + carry a b i) % 2 := by
  have e : a + b = 2 ^ i * (a / 2 ^ i + b / 2 ^ i) + (a % 2 ^ i + b % 2 ^ i) := by
    rw [Nat.mul_add]
    have h1 := Nat.div_add_mod a (2 ^ i)
    have h2 := Nat.div_add_mod b (2 ^ i)
    omega
  have e2 : (a + b) / 2 ^ i = a / 2 ^ i + b / 2 ^ i + carry a b i := by
    rw [e, Nat.mul_add_div (two_pos i)]
    rfl
  rw [e2]
  omega
theorem bit_mod (n p : Nat) (hp : p < 128) : bit (n % 2 ^ 128) p = bit n p := by
  unfold bit
  have e : n = 2 ^ p * (2 * (2 ^ (127 - p) * (n / 2 ^ 128))) + n % 2 ^ 128 := by
    have h1 := Nat.div_add_mod n (2 ^ 128)
    generalize n / 2 ^ 128 = q at h1 ⊢
    have h2 : (2 : Nat) ^ 128 * q = 2 ^ p * (2 * (2 ^ (127 - p) * q)) := by
      rw [show (2 : Nat) ^ 128 = 2 ^ p * 2 * 2 ^ (127 - p) by rw [← Nat.pow_succ, ← Nat.pow_add]; congr 1; omega]
      ac_rfl
    rw [← h2]
    exact h1.symm
  conv => rhs; rw [e]
  rw [Nat.mul_add_div (two_pos p), Nat.mul_add_mod]
end Go.Proofs.YtddaogebacigbaaGreatDoor.XBits
