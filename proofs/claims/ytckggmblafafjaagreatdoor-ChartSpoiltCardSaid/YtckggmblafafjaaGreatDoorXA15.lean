-- Written by a program of this session's (wip/xp) out of the translation; given functions by hand.
import Derived.Test.YtckggmblafafjaaGreatDoorShelfB
import Derived.Test.YtckggmblafafjaaGreatDoorXA0
import Derived.Test.YtckggmblafafjaaGreatDoorXA14
namespace Go.Proofs.YtckggmblafafjaaGreatDoor.XA
open Go.RowKit Go.Proofs.YtckggmblafafjaaGreatDoorW.PrintWords Go.Proofs.YtckggmblafafjaaGreatDoorW.PrintLast Go.Proofs.YtckggmblafafjaaGreatDoorW.PrintMore
attribute [local go_sem] max2_int min2_int max_two min_two max_three min_three max_four min_four   -- for this text's walks alone
set_option linter.unusedVariables false
set_option linter.unusedSimpArgs false

/-! ### transposallaw06_name: function 29 -/
theorem transposallaw06_name.ib (c : UInt8) : (decide (Lib.indexByte [97, 98, 99, 100, 101, 102, 103, 104, 105, 106, 107, 108, 109, 110, 111, 112, 113, 114, 115, 116, 117, 118, 119, 120, 121, 122, 65, 66, 67, 68, 69, 70, 71, 72, 73, 74, 75, 76, 77, 78, 79, 80, 81, 82, 83, 84, 85, 86, 87, 88, 89, 90, 48, 49, 50, 51, 52, 53, 54, 55, 56, 57, 32, 46] c < 0)) = !okByte c := by
  have h : ∀ n : Fin 256, (decide (Lib.indexByte [97, 98, 99, 100, 101, 102, 103, 104, 105, 106, 107, 108, 109, 110, 111, 112, 113, 114, 115, 116, 117, 118, 119, 120, 121, 122, 65, 66, 67, 68, 69, 70, 71, 72, 73, 74, 75, 76, 77, 78, 79, 80, 81, 82, 83, 84, 85, 86, 87, 88, 89, 90, 48, 49, 50, 51, 52, 53, 54, 55, 56, 57, 32, 46] (UInt8.ofNat n.val) < 0)) = !okByte (UInt8.ofNat n.val) := by decide +kernel
  have := h ⟨c.toNat, c.toNat_lt⟩
  simpa using this
theorem dropWhile_self (l : List UInt8) : l.dropWhile (· == 32) = l ↔ ¬ l.head? = some 32 := by
  cases l with
  | nil => simp
  | cons a t =>
    rw [List.dropWhile_cons]
    by_cases h : a = 32
    · subst h
      simp
      intro e
      have := congrArg List.length e
      have h2 := (List.dropWhile_suffix (· == (32 : UInt8)) (l := t)).length_le
      simp at this
      omega
    · simp [h]
theorem trim_self (l : List UInt8) : (Lib.trimB l 32 == l) = (!(l.head? == some 32) && !(l.getLast? == some 32)) := by
  unfold Lib.trimB Lib.trimLeftB Lib.trimRightB
  by_cases h2 : l.getLast? = some 32
  · have : ¬ (List.dropWhile (fun x => x == 32) (List.dropWhile (fun x => x == 32) l.reverse).reverse) = l := by
      intro e
      have a1 := (List.dropWhile_suffix (· == (32 : UInt8)) (l := (List.dropWhile (fun x => x == 32) l.reverse).reverse)).length_le
      rw [e] at a1
      have a2 := (List.dropWhile_suffix (· == (32 : UInt8)) (l := l.reverse)).length_le
      simp at a1 a2
      have a3 : (List.dropWhile (· == (32 : UInt8)) l.reverse) = l.reverse := (List.dropWhile_suffix (· == (32 : UInt8)) (l := l.reverse)).eq_of_length (by simp; omega)
      rw [dropWhile_self] at a3
      exact a3 (by rw [List.head?_reverse]; exact h2)
    simp [h2, this]
  · have e1 : List.dropWhile (· == (32 : UInt8)) l.reverse = l.reverse := (dropWhile_self _).2 (by rw [List.head?_reverse]; exact h2)
    rw [e1, List.reverse_reverse]
    by_cases h1 : l.head? = some 32
    · have : ¬ l.dropWhile (· == 32) = l := fun e => (dropWhile_self l).1 e h1
      simp [h1, this]
    · have : l.dropWhile (· == 32) = l := (dropWhile_self l).2 h1
      rw [this]
      simp [h1, h2]
theorem str_toList (b : ByteArray) : b.toList = b.data.toList := by
  obtain ⟨⟨l⟩⟩ := b
  exact ByteArray.toList_mk l
def transposallaw06_name.f (a0 : ByteArray) : Option Bool := if a0.size ≤ 140737488351232 then some (okName a0.data.toList) else none
theorem transposallaw06_name.IB (s : ByteArray) (c : Int) (w : World) : Calls Tryz.prog 38 #[.string s, .int .u8 c] w fun e w' => e = .returned (.int .i64 (Lib.indexByte s.data.toList c.toNat.toUInt8)) ∧ w' = w := by
  have X := Aside0.mk (Tryz.stringslite_IndexByte s c)
  go_enter Tryz.func38, Tryz.ntmps38
  go_wp2_with (go_at_call 44; refine (X.out _).mono ?_; rintro e w' ⟨rfl, rfl⟩)
  go_ret
  exact ⟨rfl, rfl⟩
set_option maxHeartbeats 8000000 in
set_option maxRecDepth 100000 in
theorem transposallaw06_name.calls (a0 : ByteArray) (r : Bool) (w : World) (h : transposallaw06_name.f a0 = some r) :
    Calls Tryz.prog 29 #[.string a0] w fun e w' => e = .returned (.bool r) ∧ Below w.heap.size w w' := by
  unfold transposallaw06_name.f at h
  split at h
  case isFalse => cases h
  rename_i hlim
  obtain rfl := Option.some.inj h
  clear h
  have hsz : a0.data.toList.length = a0.size := Array.length_toList
  have hconv : (convert 9 69 (.string a0)).run Tryz.prog w = .ok (.slice (some ⟨w.heap.size, 0, none⟩) a0.size (grownCap w a0.size 0 5)) (Lib.bytesWorld w 5 a0) := Lib.run_convert_string_bytes w 9 69 5 a0 Tryz.underlying9 Tryz.underlying69 Tryz.underlying5
  have hB : Below w.heap.size w (Lib.bytesWorld w 5 a0) := bytes_below (Below.refl _ _) (Nat.le_refl _) 5 a0
  have hi : (Tryz.prog.info? 5).map (fun i => (i.zero, i.size, i.bytes)) = some (some (.int .u8 0), 1, 1) := by kernel_rfl
  have hall : ∀ (p : Nat) (h : p < a0.size), okByte a0[p] = false → okName a0.data.toList = false := by
    intro p hp hq
    unfold okName
    have : a0.data.toList.all okByte = false := by
      rw [List.all_eq_false]
      refine ⟨a0[p], ?_, by simp [hq]⟩
      simp [ByteArray.getElem_eq_getElem_data]
    rw [this, Bool.and_false]
  go_enter Tryz.func29, Tryz.ntmps29
  go_wp2
  go_loopw [8] (fun v8 w' => ∃ (x : Nat), w' = Lib.bytesWorld w 5 a0 ∧ v8 = .int .i64 x ∧ x ≤ a0.size ∧ (∀ (p : Nat) (h : p < a0.size), p < x → okByte a0[p] = true)) (fun v8 _ => a0.size - (intOf v8).toNat)
  case atStart => exact ⟨0, rfl, rfl, Nat.zero_le _, fun p _ h => by omega⟩
  case round =>
    obtain ⟨x, rfl, rfl, hx, hb⟩ := hrel
    by_cases hp : x < a0.size
    · have hc : (Lib.bytesWorld w 5 a0).cell? ⟨w.heap.size, x, none⟩ = some (.int .u8 (a0[x].toNat : Int)) := by
        rw [Lib.bytesWorld_cell w 5 a0 x hp]
        rw [List.getD_eq_getElem?_getD, List.getElem?_eq_getElem (by omega)]
        simp [ByteArray.getElem_eq_getElem_data]
      have d0 : decide ((x : Int) < (a0.size : Int)) = true := decide_eq_true (by omega)
      have d1 : decide (x < a0.size) = true := decide_eq_true hp
      go_wp2_with (go_at_call 38; refine (transposallaw06_name.IB _ _ _).mono ?_; rintro e w1 ⟨rfl, rfl⟩)
      all_goals first
        | (rename_i hq
           go_ret
           have ho := transposallaw06_name.ib a0[x]
           rw [decide_eq_true hq] at ho
           refine ⟨?_, hB⟩
           rw [hall x hp (by simpa using ho.symm)]
           rfl)
        | (rename_i hq
           have ho := transposallaw06_name.ib a0[x]
           rw [decide_eq_false (Int.not_lt.2 hq)] at ho
           refine ⟨⟨x + 1, trivial, rfl, by omega, fun p h hlt => ?_⟩, by simp [intOf]; omega⟩
           rcases Nat.lt_or_ge p x with h5 | h5
           · exact hb p h h5
           · obtain rfl : p = x := by omega
             simpa using ho.symm)
    · have d0 : decide ((x : Int) < (a0.size : Int)) = false := decide_eq_false (by omega)
      have d1 : decide (x < a0.size) = false := decide_eq_false hp
      have hr : okName a0.data.toList = (decide (1 ≤ a0.size) && (decide (a0.size ≤ 30) && (Lib.trimB a0.data.toList 32 == a0.data.toList))) := by
        have : a0.data.toList.all okByte = true := by
          rw [List.all_eq_true]
          intro y hy
          obtain ⟨p, hp', rfl⟩ := List.getElem_of_mem hy
          have := hb p (by omega) (by omega)
          simpa [ByteArray.getElem_eq_getElem_data] using this
        rw [trim_self]
        unfold okName
        rw [this, hsz, Bool.and_true, Bool.and_assoc, Bool.and_assoc]
      by_cases s1 : 0 < a0.size
      · have e0 : decide (0 < (a0.size : Int)) = true := decide_eq_true (by omega)
        have e1 : decide (0 < a0.size) = true := decide_eq_true s1
        by_cases s2 : a0.size < 31
        · have e2 : decide ((a0.size : Int) < 31) = true := decide_eq_true (by omega)
          have e3 : decide (a0.size < 31) = true := decide_eq_true s2
          go_wp2_with (go_at_call 39; refine (Tryz.strings_Trim_one _ 32 (by decide) _ (by omega)).mono ?_; rintro e w1 ⟨rfl, hw⟩)
          go_ret
          refine ⟨?_, ?_⟩
          · rw [hr, decide_eq_true (show 1 ≤ a0.size by omega), decide_eq_true (show a0.size ≤ 30 by omega), Bool.true_and, Bool.true_and]
            rw [str_toList]
            rfl
          · rcases hw with rfl | rfl
            · exact hB
            · exact below_drew1 hB
        · have e2 : decide ((a0.size : Int) < 31) = false := decide_eq_false (by omega)
          have e3 : decide (a0.size < 31) = false := decide_eq_false s2
          go_wp2
          go_ret
          exact ⟨by rw [hr, decide_eq_false (show ¬ a0.size ≤ 30 by omega), Bool.false_and, Bool.and_false]; rfl, hB⟩
      · have e0 : decide (0 < (a0.size : Int)) = false := decide_eq_false (by omega)
        have e1 : decide (0 < a0.size) = false := decide_eq_false s1
        go_wp2
        go_ret
        exact ⟨by rw [hr, decide_eq_false (show ¬ 1 ≤ a0.size by omega), Bool.false_and]; rfl, hB⟩


end Go.Proofs.YtckggmblafafjaaGreatDoor.XA
