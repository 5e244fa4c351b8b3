/- DayOf, as its pure statement: any year, month, day: its number, and back; its text, and back. No conditions. -/
import Derived.Test.YtnbdcpgaceongaaDoorXA8
import Derived.Test.YtnbdcpgaceongaaDoorPDayC
namespace Go.Proofs.YtnbdcpgaceongaaDoor.Pure
open Go.RowKit Go.Proofs.YtnbdcpgaceongaaDoorW.PrintWords Go.Proofs.YtnbdcpgaceongaaDoorW.PrintLast Go.Proofs.YtnbdcpgaceongaaDoor.XA Go.Proofs.YtnbdcpgaceongaaDoor.DayMath Go.Proofs.YtnbdcpgaceongaaDoor.PDay
set_option linter.unusedVariables false
set_option linter.unusedSimpArgs false
theorem i16_bounds {x : Int} (h : (Lit.int .i16 x).wf = true) : -32768 ≤ x ∧ x ≤ 32767 := by
  simp [Lit.wf, show IntKind.i16.min = -32768 from rfl, show IntKind.i16.max = 32767 from rfl] at h
  exact h
theorem DayOf : transposallaw04_DayOf.Pure := by
  intro a0 a1 a2 h0 h1 h2
  have b0 := i16_bounds h0
  have b1 := i16_bounds h1
  have b2 := i16_bounds h2
  refine ⟨40000, ?_⟩
  unfold transposallaw04_DayOf.f
  rw [w64 (x := a0) (by omega) (by omega), w64 (x := a1) (by omega) (by omega), w64 (x := a2) (by omega) (by omega), awake 40000 (by omega), right_eq a0 a1 a2 40000 (by omega)]
  simp only [Option.bind_some, if_true]
  by_cases V : Valid a0 a1 a2
  · have hd := date_eq V 40000 (by omega)
    have ht := text_eq V 40000 (by omega)
    have hp := parse_text V 40000 (by omega)
    have hr := num_range V
    have bm := mlen_bound a0 a1
    have vv := V
    obtain ⟨v1, v2, v3, v4, v5, v6⟩ := vv
    rw [of_eq V 40000 (by omega), decide_eq_true V]
    simp only [Option.bind_some, if_true]
    rw [hd]
    obtain ⟨a, rfl⟩ : ∃ a : Nat, a0 = a := ⟨a0.toNat, by omega⟩
    obtain ⟨b, rfl⟩ : ∃ b : Nat, a1 = b := ⟨a1.toNat, by omega⟩
    obtain ⟨c, rfl⟩ : ∃ c : Nat, a2 = c := ⟨a2.toNat, by omega⟩
    have d4 : transposallaw04_digits.f (a : Int) 4 = some ⟨(pad4 a).toArray⟩ := by
      unfold transposallaw04_digits.f
      rw [if_pos (by omega), show (4 : Int).toNat = 4 from rfl, (digits_eq a (by omega)).1]
    have d2 : ∀ u : Nat, u ≤ 100 → transposallaw04_digits.f (u : Int) 2 = some ⟨(pad2 u).toArray⟩ := fun u hu => by
      unfold transposallaw04_digits.f
      rw [if_pos (by omega), show (2 : Int).toNat = 2 from rfl, (digits_eq u (by omega)).2]
    rw [d4, d2 b (by omega), d2 c (by omega)]
    simp only [Option.bind_some]
    have s1 : (⟨(pad4 a).toArray⟩ : ByteArray).size = 4 := rfl
    have s2 : ∀ u, (⟨(pad2 u).toArray⟩ : ByteArray).size = 2 := fun _ => rfl
    have s3 : (⟨#[45]⟩ : ByteArray).size = 1 := rfl
    simp only [ByteArray.size_append, s1, s2, s3]
    rw [if_pos (by omega), if_pos (by omega), if_pos (by omega), if_pos (by omega)]
    have e : (((⟨(pad4 a).toArray⟩ : ByteArray) ++ ⟨#[45]⟩) ++ ⟨(pad2 b).toArray⟩ ++ ⟨#[45]⟩) ++ ⟨(pad2 c).toArray⟩ = ⟨(textL a b c).toArray⟩ := by
      rw [show (⟨#[45]⟩ : ByteArray) = ⟨[45].toArray⟩ from rfl, arr_append, arr_append, arr_append, arr_append]
      unfold textL
      simp only [Int.toNat_natCast, List.append_assoc, List.singleton_append, List.cons_append, List.nil_append]
    rw [e, hp]
    simp only [Option.bind_some, if_true]
    rw [number_eq v1 (by omega) v3 v4 (by omega) (by omega) 40000 (by omega), ht, w64 (x := num a b c) (by omega) (by omega)]
    simp
  · rw [of_none V 40000 (by omega), decide_eq_false V]
    simp
end Go.Proofs.YtnbdcpgaceongaaDoor.Pure
