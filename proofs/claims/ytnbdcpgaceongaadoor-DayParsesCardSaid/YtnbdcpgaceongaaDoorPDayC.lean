/- The day after a day; texts rise as days do; texts are read back. Plain, over the printed functions. Conditions: as each says. -/
import Derived.Test.YtnbdcpgaceongaaDoorXA7
import Derived.Test.YtnbdcpgaceongaaDoorXA8
import Derived.Test.YtnbdcpgaceongaaDoorPDayB
import Derived.Lib.Strings
namespace Go.Proofs.YtnbdcpgaceongaaDoor.PDay
open Go.RowKit Go.Proofs.YtnbdcpgaceongaaDoorW.PrintWords Go.Proofs.YtnbdcpgaceongaaDoorW.PrintLast Go.Proofs.YtnbdcpgaceongaaDoor.XA Go.Proofs.YtnbdcpgaceongaaDoor.DayMath
set_option linter.unusedVariables false
set_option linter.unusedSimpArgs false

theorem succ_date {y m d u v w : Int} (V : Valid y m d) (W : Valid u v w) (e : num u v w = num y m d + 1) : (u = y ∧ v = m ∧ w = d + 1) ∨ (w = 1 ∧ ((v = m + 1 ∧ u = y) ∨ (v = 1 ∧ m = 12 ∧ u = y + 1))) := by
  have V' := V
  obtain ⟨v1, v2, v3, v4, v5, v6⟩ := V'
  have hb := mlen_bound y (m + 1)
  have hb1 := mlen_bound (y + 1) 1
  by_cases h1 : d + 1 ≤ mlen y m
  · have V2 : Valid y m (d + 1) := ⟨v1, v2, v3, v4, by omega, h1⟩
    left
    exact num_inj W V2 (by rw [e]; unfold num; omega)
  · have hd : d = mlen y m := by omega
    right
    have hs := cum_succ y m v3
    by_cases h2 : m < 12
    · have V2 : Valid y (m + 1) 1 := ⟨v1, v2, by omega, by omega, by omega, by omega⟩
      obtain ⟨a, b, c⟩ := num_inj W V2 (by rw [e]; unfold num; omega)
      exact ⟨c, .inl ⟨b, a⟩⟩
    · obtain rfl : m = 12 := by omega
      have h13 := cum_13 y
      have ha := ah_succ y
      rw [show (12 : Int) + 1 = 13 by omega] at hs
      by_cases h3 : y < 9999
      · have V2 : Valid (y + 1) 1 1 := ⟨by omega, by omega, by omega, by omega, by omega, by omega⟩
        obtain ⟨a, b, c⟩ := num_inj W V2 (by rw [e]; unfold num; rw [cum_1]; omega)
        exact ⟨c, .inr ⟨b, rfl, a⟩⟩
      · obtain rfl : y = 9999 := by omega
        have hr := num_range W
        have h0 := ah_10000
        rw [show (9999 : Int) + 1 = 10000 by omega] at ha
        unfold num at e hr
        omega

/-! ### texts rise -/
theorem dig_nat (u : Nat) : (dig u).toNat = 48 + u % 10 := by
  unfold dig
  rw [UInt8.toNat_ofNat']
  omega
theorem dig_lt (a b : Nat) : (dig a < dig b) ↔ a % 10 < b % 10 := by rw [UInt8.lt_iff_toNat_lt, dig_nat, dig_nat]; omega
theorem dig_beq (a b : Nat) : (dig a == dig b) = decide (a % 10 = b % 10) := by
  by_cases h : a % 10 = b % 10
  · have : dig a = dig b := by unfold dig; rw [h]
    simp [this, h]
  · have : ¬ dig a = dig b := fun e => h (by have := congrArg UInt8.toNat e; rw [dig_nat, dig_nat] at this; omega)
    simp [this, h]
theorem less_cons (a b : Nat) (x y : List UInt8) : Op.bytesLess (dig a :: x) (dig b :: y) = (decide (a % 10 < b % 10) || (decide (a % 10 = b % 10) && Op.bytesLess x y)) := by
  simp only [Op.bytesLess, dig_beq, dig_lt]
theorem less_same (c : UInt8) (x y : List UInt8) : Op.bytesLess (c :: x) (c :: y) = Op.bytesLess x y := by
  have : ¬ c < c := by rw [UInt8.lt_iff_toNat_lt]; omega
  simp [Op.bytesLess, this]
theorem four (u : Nat) (h : u ≤ 9999) : ∃ a b c d, a < 10 ∧ b < 10 ∧ c < 10 ∧ d < 10 ∧ u = 1000 * a + 100 * b + 10 * c + d ∧ u / 1000 % 10 = a ∧ u / 100 % 10 = b ∧ u / 10 % 10 = c ∧ u % 10 = d :=
  ⟨u / 1000 % 10, u / 100 % 10, u / 10 % 10, u % 10, by omega, by omega, by omega, by omega, by omega, rfl, rfl, rfl, rfl⟩
theorem pad4_less {u v : Nat} (h : u < v) (hv : v ≤ 9999) (x y : List UInt8) : Op.bytesLess (pad4 u ++ x) (pad4 v ++ y) = true := by
  obtain ⟨a, b, c, d, ha, hb, hc, hd, e, e1, e2, e3, e4⟩ := four u (by omega)
  obtain ⟨a', b', c', d', ha', hb', hc', hd', e', e1', e2', e3', e4'⟩ := four v (by omega)
  unfold pad4
  simp only [List.cons_append, List.nil_append, less_cons, e1, e2, e3, e4, e1', e2', e3', e4']
  simp only [Bool.or_eq_true, Bool.and_eq_true, decide_eq_true_eq]
  clear e1 e2 e3 e4 e1' e2' e3' e4'
  rcases Nat.lt_or_ge a a' with h1 | h1
  · exact .inl h1
  obtain rfl : a = a' := by omega
  refine .inr ⟨rfl, ?_⟩
  rcases Nat.lt_or_ge b b' with h2 | h2
  · exact .inl h2
  obtain rfl : b = b' := by omega
  refine .inr ⟨rfl, ?_⟩
  rcases Nat.lt_or_ge c c' with h3 | h3
  · exact .inl h3
  obtain rfl : c = c' := by omega
  exact .inr ⟨rfl, .inl (by omega)⟩
theorem pad2_less {u v : Nat} (h : u < v) (hv : v ≤ 99) (x y : List UInt8) : Op.bytesLess (pad2 u ++ x) (pad2 v ++ y) = true := by
  unfold pad2
  simp only [List.cons_append, List.nil_append, less_cons]
  simp only [Bool.or_eq_true, Bool.and_eq_true, decide_eq_true_eq]
  rcases Nat.lt_or_ge (u / 10 % 10) (v / 10 % 10) with c | c
  · exact .inl c
  exact .inr ⟨by omega, .inl (by omega)⟩
theorem less_prefix : ∀ (p x y : List UInt8), Op.bytesLess (p ++ x) (p ++ y) = Op.bytesLess x y
  | [], _, _ => rfl
  | c :: p, x, y => by rw [List.cons_append, List.cons_append, less_same, less_prefix p x y]
theorem text_less {y m d y' m' d' : Int} (V : Valid y m d) (V' : Valid y' m' d') (h : num y m d < num y' m' d') : Op.bytesLess (textL y m d) (textL y' m' d') = true := by
  have hl := (num_lt_iff V V').1 h
  have b1 := mlen_bound y m
  have b2 := mlen_bound y' m'
  obtain ⟨v1, v2, v3, v4, v5, v6⟩ := V
  obtain ⟨w1, w2, w3, w4, w5, w6⟩ := V'
  unfold textL
  rcases hl with hl | ⟨rfl, hl | ⟨rfl, hl⟩⟩
  · exact pad4_less (by omega) (by omega) _ _
  · rw [less_prefix, less_same]
    exact pad2_less (by omega) (by omega) _ _
  · rw [less_prefix, less_same, less_prefix, less_same]
    have := pad2_less (u := d.toNat) (v := d'.toNat) (by omega) (by omega) [] []
    simpa using this

/-! ### texts are read -/
theorem parse_step (acc u : Nat) (r : List UInt8) (h : acc ≤ 1000000) : Lib.parseUint10 acc (dig u :: r) = Lib.parseUint10 (acc * 10 + u % 10) r := by
  rw [Lib.parseUint10, dig_nat, if_pos (by omega), if_neg (by omega), if_neg (by omega)]
  congr 2
  omega
theorem dig_no (u : Nat) : ¬ ((dig u).toNat = 43 ∨ (dig u).toNat = 45) := by rw [dig_nat]; omega
theorem dig_no2 (u : Nat) : ¬ (dig u).toNat = 45 := by rw [dig_nat]; omega
theorem atoi_of {u : Nat} {r : List UInt8} {v : Nat} (h : Lib.parseUint10 0 (dig u :: r) = .ok v) (hv : v ≤ 100000) : Lib.atoiAll (dig u :: r) = .ok (v : Int) := by
  unfold Lib.atoiAll
  simp only [if_neg (dig_no u), Lib.parseMag, List.cons_ne_nil, if_false, reduceCtorEq]
  rw [h]
  simp only [dig_no2, not_false_eq_true, true_and, false_and, if_false]
  rw [if_neg (by omega)]
theorem atoi4 {u : Nat} (h : u ≤ 9999) : Lib.atoiAll (pad4 u) = .ok (u : Int) := by
  refine atoi_of ?_ (by omega)
  rw [parse_step _ _ _ (by omega), parse_step _ _ _ (by omega), parse_step _ _ _ (by omega), parse_step _ _ _ (by omega), Lib.parseUint10]
  congr 1
  omega
theorem atoi2 {u : Nat} (h : u ≤ 99) : Lib.atoiAll (pad2 u) = .ok (u : Int) := by
  refine atoi_of ?_ (by omega)
  rw [parse_step _ _ _ (by omega), parse_step _ _ _ (by omega), Lib.parseUint10]
  congr 1
  omega
theorem bt_arr (l : List UInt8) (i : Int) (h : i.toNat < l.length) : bt ⟨l.toArray⟩ i = ((l[i.toNat]'h).toNat : Int) := by
  rw [← bt_at ⟨l.toArray⟩ i (by simpa [ByteArray.size] using h)]
  rfl
theorem ext_arr (l : List UInt8) (a b : Nat) : ((⟨l.toArray⟩ : ByteArray).extract a b).data.toList = (l.take b).drop a := by
  rw [ByteArray.data_extract]
  simp [List.extract_eq_take_drop, List.drop_take]
theorem parse_g (a0 : ByteArray) (y m d : Int) (k : Nat) (hk : 25000 ≤ k) : day_Parse.g k a0 y m d = (if Valid y m d ∧ (⟨(textL y m d).toArray⟩ : ByteArray).toList = a0.toList then some (num y m d, true) else some (0, false)) := by
  unfold day_Parse.g
  by_cases V : Valid y m d
  · rw [of_eq V k (by omega)]
    simp only [Option.bind_some, if_true]
    rw [text_eq V k hk]
    simp only [Option.bind_some]
    by_cases h : (⟨(textL y m d).toArray⟩ : ByteArray).toList = a0.toList
    · rw [if_pos h, if_pos ⟨V, h⟩]
    · rw [if_neg h, if_neg (fun hc => h hc.2)]
  · rw [of_none V k (by omega), if_neg (fun hc => V hc.1)]
    simp
/-- A day's text is read back. -/
theorem parse_text {y m d : Int} (V : Valid y m d) (k : Nat) (hk : 25000 ≤ k) : day_Parse.f k ⟨(textL y m d).toArray⟩ = some (num y m d, true) := by
  have b1 := mlen_bound y m
  have V' := V
  obtain ⟨v1, v2, v3, v4, v5, v6⟩ := V'
  unfold day_Parse.f
  rw [if_pos ⟨rfl, by rw [bt_arr _ _ (by rw [textL_length]; decide)]; rfl, by rw [bt_arr _ _ (by rw [textL_length]; decide)]; rfl⟩, ext_arr, ext_arr, ext_arr]
  rw [show ((textL y m d).take 4).drop 0 = pad4 y.toNat from rfl, show ((textL y m d).take 7).drop 5 = pad2 m.toNat from rfl, show ((textL y m d).take 10).drop 8 = pad2 d.toNat from rfl]
  rw [atoi4 (by omega), atoi2 (by omega), atoi2 (by omega)]
  simp only
  rw [show ((y.toNat : Nat) : Int) = y by omega, show ((m.toNat : Nat) : Int) = m by omega, show ((d.toNat : Nat) : Int) = d by omega, parse_g _ _ _ _ k hk, if_pos ⟨V, rfl⟩]
/-- Whatever is read: nothing, or a date whose text it is. -/
theorem parse_any (a0 : ByteArray) (k : Nat) (hk : 25000 ≤ k) : day_Parse.f k a0 = some (0, false) ∨ ∃ y m d, Valid y m d ∧ (⟨(textL y m d).toArray⟩ : ByteArray).toList = a0.toList ∧ day_Parse.f k a0 = some (num y m d, true) := by
  unfold day_Parse.f
  split
  · split
    · rename_i y m d _ _ _
      rw [parse_g _ _ _ _ k hk]
      split
      · rename_i h
        exact .inr ⟨y, m, d, h.1, h.2, rfl⟩
      · exact .inl rfl
    · exact .inl rfl
  · exact .inl rfl
theorem digits_eq (n : Nat) (h : n ≤ 100000) : digitsOf 4 (n : Int) [] = pad4 n ∧ digitsOf 2 (n : Int) [] = pad2 n := by
  have hd : ∀ u : Nat, (48 + (u : Int) % 10).toNat.toUInt8 = dig u := fun u => by
    unfold dig
    rw [show (48 + (u : Int) % 10).toNat = 48 + u % 10 by omega]
  have e1 : (n : Int) / 10 = ((n / 10 : Nat) : Int) := by omega
  have e2 : ((n / 10 : Nat) : Int) / 10 = ((n / 100 : Nat) : Int) := by omega
  have e3 : ((n / 100 : Nat) : Int) / 10 = ((n / 1000 : Nat) : Int) := by omega
  unfold pad4 pad2
  simp only [digitsOf, hd, e1, e2, e3, and_self]
end Go.Proofs.YtnbdcpgaceongaaDoor.PDay
