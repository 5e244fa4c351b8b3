/- The texts of days, as the printed functions come to them. Conditions: as each says. -/

import Derived.Test.YtddaogebacigbaaGreatDoorXA0
import Derived.Test.YtddaogebacigbaaGreatDoorPDayA
import Derived.Lib.RabinKarpLaws
namespace Go.Proofs.YtddaogebacigbaaGreatDoor.PDay
open Go.RowKit Go.Proofs.YtddaogebacigbaaGreatDoorW.PrintWords Go.Proofs.YtddaogebacigbaaGreatDoorW.PrintLast Go.Proofs.YtddaogebacigbaaGreatDoor.XA Go.Proofs.YtddaogebacigbaaGreatDoor.DayMath
set_option linter.unusedVariables false
set_option linter.unusedSimpArgs false

def dig (u : Nat) : UInt8 := UInt8.ofNat (48 + u % 10)
def pad4 (u : Nat) : List UInt8 := [dig (u / 1000), dig (u / 100), dig (u / 10), dig u]
def pad2 (u : Nat) : List UInt8 := [dig (u / 10), dig u]
def textL (y m d : Int) : List UInt8 := pad4 y.toNat ++ 45 :: (pad2 m.toNat ++ 45 :: pad2 d.toNat)
theorem dig_eq {u : Nat} (h : u < 10) : UInt8.ofNat (48 + u) = dig u := by unfold dig; rw [Nat.mod_eq_of_lt h]
theorem dec1 {u : Nat} (h : u < 10) : Lib.decDigits u = [dig u] := by rw [Lib.decDigits, dif_pos h, dig_eq h]
theorem dec_step {u : Nat} (h : ¬ u < 10) : Lib.decDigits u = Lib.decDigits (u / 10) ++ [dig u] := by rw [Lib.decDigits, dif_neg h]; rfl
theorem dig_0 {u : Nat} (h : u < 1) : dig u = 48 := by obtain rfl : u = 0 := by omega
                                                       rfl
theorem arr_size (l : List UInt8) : (⟨l.toArray⟩ : ByteArray).size = l.length := by simp [ByteArray.size]
theorem arr_append (a b : List UInt8) : (⟨a.toArray⟩ : ByteArray) ++ ⟨b.toArray⟩ = ⟨(a ++ b).toArray⟩ := by
  apply ByteArray.ext
  simp
theorem toList_data (b : ByteArray) : b.toList = b.data.toList := by
  obtain ⟨⟨l⟩⟩ := b
  exact ByteArray.toList_mk l
theorem textL_length (y m d : Int) : (textL y m d).length = 10 := rfl
end Go.Proofs.YtddaogebacigbaaGreatDoor.PDay
