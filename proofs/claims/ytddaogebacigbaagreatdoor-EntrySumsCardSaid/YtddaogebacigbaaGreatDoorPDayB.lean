/- The texts of days, as the printed functions come to them. Conditions: as each says. -/
import Derived.Test.YtddaogebacigbaaGreatDoorXA3
import Derived.Test.YtddaogebacigbaaGreatDoorXA9
import Derived.Test.YtddaogebacigbaaGreatDoorPDayA
import Derived.Lib.RabinKarpLaws
namespace Go.Proofs.YtddaogebacigbaaGreatDoor.PDay
open Go.RowKit Go.Proofs.YtddaogebacigbaaGreatDoorW.PrintWords Go.Proofs.YtddaogebacigbaaGreatDoorW.PrintLast Go.Proofs.YtddaogebacigbaaGreatDoor.XA Go.Proofs.YtddaogebacigbaaGreatDoor.DayMath
set_option linter.unusedVariables false
set_option linter.unusedSimpArgs false

def dig (u : Nat) : UInt8 := UInt8.ofNat (48 + u % 10)
def pad4 (u : Nat) : List UInt8 := [dig (u / 1000), dig (u / 100), dig (u / 10), dig u]
def pad2 (u : Nat) : List UInt8 := [dig (u / 10), dig u]
def textL (y m d : Int) : List UInt8 := pad4 y.toNat ++ 45 :: (pad2 m.toNat ++ 45 :: pad2 d.toNat)
theorem dig_eq {u : Nat} (h : u < 10) : UInt8.ofNat (48 + u) = dig u := by unfold dig; rw [Nat.mod_eq_of_lt h]
theorem dec1 {u : Nat} (h : u < 10) : Lib.decDigits u = [dig u] := by rw [Lib.decDigits, dif_pos h, dig_eq h]
theorem dec_step {u : Nat} (h : ¬ u < 10) : Lib.decDigits u = Lib.decDigits (u / 10) ++ [dig u] := by rw [Lib.decDigits, dif_neg h]; rfl
theorem dig_0 {u : Nat} (h : u < 1) : dig u = 48 := by obtain rfl : u = 0 := by omega
                                                       rfl
theorem arr_size (l : List UInt8) : (⟨l.toArray⟩ : ByteArray).size = l.length := by simp [ByteArray.size]
theorem arr_append (a b : List UInt8) : (⟨a.toArray⟩ : ByteArray) ++ ⟨b.toArray⟩ = ⟨(a ++ b).toArray⟩ := by
  apply ByteArray.ext
  simp
theorem padded_eq {u : Nat} {l : List UInt8} {c n : Nat} {ni : Int} (hni : ni = (n : Int)) (hl : Lib.decDigits u = l) (hu : u ≤ 100000) (hc : c = n - l.length) (hlen : l.length ≤ 10) (hn : n ≤ 10) :
    day_padded.f u ni = some ⟨(Lib.repeatL [48] c ++ l).toArray⟩ := by
  subst hni
  unfold day_padded.f strconv_Itoa.f
  have hi : Lib.itoa (u : Int) = l := by
    unfold Lib.itoa
    rw [if_neg (by omega), Int.toNat_natCast, hl]
  rw [if_pos (by omega), hi]
  simp only [Option.bind_some]
  have hx : mx (wrap64 ((n : Int) - ((⟨l.toArray⟩ : ByteArray).size : Int))) 0 = (c : Int) := by
    rw [arr_size, w64 (by omega) (by omega)]
    unfold mx
    omega
  rw [hx]
  unfold strings_Repeat.f
  rw [if_pos ⟨by omega, by omega, by decide⟩, Int.toNat_natCast]
  simp only [Option.bind_some]
  rw [arr_size, arr_size, if_pos, arr_append]
  rw [Lib.repeatL_length]
  simp only [List.length_singleton]
  omega
theorem pad4_eq {u : Nat} (h : u ≤ 9999) : day_padded.f u 4 = some ⟨(pad4 u).toArray⟩ := by
  unfold pad4
  rcases Nat.lt_or_ge u 10 with h1 | h1
  · rw [padded_eq (ni := 4) (n := 4) (c := 3) rfl (dec1 h1) (by omega) rfl (by simp) (by omega), dig_0 (u := u / 1000) (by omega), dig_0 (u := u / 100) (by omega), dig_0 (u := u / 10) (by omega)]
    rfl
  rcases Nat.lt_or_ge u 100 with h2 | h2
  · have e : Lib.decDigits u = [dig (u / 10), dig u] := by rw [dec_step (by omega), dec1 (by omega)]; rfl
    rw [padded_eq (ni := 4) (n := 4) (c := 2) rfl e (by omega) rfl (by simp) (by omega), dig_0 (u := u / 1000) (by omega), dig_0 (u := u / 100) (by omega)]
    rfl
  rcases Nat.lt_or_ge u 1000 with h3 | h3
  · have e : Lib.decDigits u = [dig (u / 100), dig (u / 10), dig u] := by
      rw [dec_step (by omega), dec_step (by omega), dec1 (by omega)]; simp only [Nat.div_div_eq_div_mul]; rfl
    rw [padded_eq (ni := 4) (n := 4) (c := 1) rfl e (by omega) rfl (by simp) (by omega), dig_0 (u := u / 1000) (by omega)]
    rfl
  · have e : Lib.decDigits u = [dig (u / 1000), dig (u / 100), dig (u / 10), dig u] := by
      rw [dec_step (by omega), dec_step (by omega), dec_step (by omega), dec1 (by omega)]; simp only [Nat.div_div_eq_div_mul]; rfl
    rw [padded_eq (ni := 4) (n := 4) (c := 0) rfl e (by omega) rfl (by simp) (by omega)]
    rfl
theorem pad2_eq {u : Nat} (h : u ≤ 99) : day_padded.f u 2 = some ⟨(pad2 u).toArray⟩ := by
  unfold pad2
  rcases Nat.lt_or_ge u 10 with h1 | h1
  · rw [padded_eq (ni := 2) (n := 2) (c := 1) rfl (dec1 h1) (by omega) rfl (by simp) (by omega), dig_0 (u := u / 10) (by omega)]
    rfl
  · have e : Lib.decDigits u = [dig (u / 10), dig u] := by rw [dec_step (by omega), dec1 (by omega)]; rfl
    rw [padded_eq (ni := 2) (n := 2) (c := 0) rfl e (by omega) rfl (by simp) (by omega)]
    rfl
theorem text_eq {y m d : Int} (V : Valid y m d) (k : Nat) (hk : 25000 ≤ k) : day_Day_Text.f k (num y m d) = some ⟨(textL y m d).toArray⟩ := by
  have hm := mlen_bound y m
  have hd := date_eq V k hk
  obtain ⟨v1, v2, v3, v4, v5, v6⟩ := V
  obtain ⟨a, rfl⟩ : ∃ a : Nat, y = a := ⟨y.toNat, by omega⟩
  obtain ⟨b, rfl⟩ : ∃ b : Nat, m = b := ⟨m.toNat, by omega⟩
  obtain ⟨c, rfl⟩ : ∃ c : Nat, d = c := ⟨d.toNat, by omega⟩
  unfold day_Day_Text.f
  rw [hd]
  simp only [Option.bind_some]
  rw [if_neg (by omega), pad4_eq (by omega), pad2_eq (u := b) (by omega), pad2_eq (u := c) (by omega)]
  simp only [Option.bind_some]
  have s1 : (⟨(pad4 a).toArray⟩ : ByteArray).size = 4 := rfl
  have s2 : ∀ u, (⟨(pad2 u).toArray⟩ : ByteArray).size = 2 := fun _ => rfl
  have s3 : (⟨#[45]⟩ : ByteArray).size = 1 := rfl
  simp only [ByteArray.size_append, s1, s2, s3]
  rw [if_pos (by omega), if_pos (by omega), if_pos (by omega), if_pos (by omega)]
  rw [show (⟨#[45]⟩ : ByteArray) = ⟨[45].toArray⟩ from rfl, arr_append, arr_append, arr_append, arr_append]
  unfold textL
  simp only [Int.toNat_natCast, List.append_assoc, List.singleton_append, List.cons_append, List.nil_append]
theorem text_none {n : Int} (h : n < -719162 ∨ 2932897 ≤ n) (k : Nat) (hk : 1 ≤ k) : day_Day_Text.f k n = some ⟨#[]⟩ := by
  unfold day_Day_Text.f
  rw [date_none h k hk]
  simp
theorem toList_data (b : ByteArray) : b.toList = b.data.toList := by
  obtain ⟨⟨l⟩⟩ := b
  exact ByteArray.toList_mk l
theorem textL_length (y m d : Int) : (textL y m d).length = 10 := rfl
theorem awake3 (k : Nat) (hk : 100 ≤ k) : transposallaw03_Awake.f k = some true :=
  at_rounds (g := fun k => transposallaw03_Awake.f k) (fun k => transposallaw03_Awake.mono k) hk (by decide +kernel)
theorem awake (k : Nat) (hk : 25000 ≤ k) : transposallaw04_Awake.f k = some true := by
  have V1 : Valid 1970 1 1 := by decide
  have V2 : Valid 2000 2 29 := by decide
  have n1 : num 1970 1 1 = 0 := by decide
  have n2 : num 2000 2 29 = 11016 := by decide
  have t2 := text_eq V2 k hk
  unfold transposallaw04_Awake.f
  rw [of_eq V1 k (by omega), of_eq V2 k (by omega)]
  simp only [Option.bind_some, if_true, n1, n2]
  rw [n2] at t2
  rw [t2, awake3 k (by omega)]
  simp only [Option.bind_some, toList_data]
  rw [if_pos (by decide)]
end Go.Proofs.YtddaogebacigbaaGreatDoor.PDay
