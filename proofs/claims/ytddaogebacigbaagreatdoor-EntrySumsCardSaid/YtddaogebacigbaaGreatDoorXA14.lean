-- Written by a program of this session's (wip/xp) out of the translation; given functions by hand.
import Derived.Test.YtddaogebacigbaaGreatDoorPTurns
import Derived.Test.YtddaogebacigbaaGreatDoorXArr
import Derived.Test.YtddaogebacigbaaGreatDoorXA0
import Derived.Test.YtddaogebacigbaaGreatDoorXA4
import Derived.Test.YtddaogebacigbaaGreatDoorXA13
namespace Go.Proofs.YtddaogebacigbaaGreatDoor.XA
open Go.RowKit Go.Proofs.YtddaogebacigbaaGreatDoorW.PrintWords Go.Proofs.YtddaogebacigbaaGreatDoorW.PrintLast Go.Proofs.YtddaogebacigbaaGreatDoorW.PrintMore
attribute [local go_sem] max2_int min2_int max_two min_two max_three min_three max_four min_four   -- for this text's walks alone
set_option linter.unusedVariables false
set_option linter.unusedSimpArgs false

/-! ### transposallaw09_Check: function 19 -/
def xqBitsF (hi lo : Nat) (i p : Nat) : Int := if p < 64 then (if p < i then (lo : Int) / 2 ^ p % 2 else 0) else (if p - 64 < i then (hi : Int) / 2 ^ (p - 64) % 2 else 0)
theorem xqBitsF_step (hi lo i : Nat) (h : i < 64) : XBits.row (fun p => if p = 64 + i then (hi : Int) / 2 ^ i % 2 else if p = i then (lo : Int) / 2 ^ i % 2 else xqBitsF hi lo i p) = XBits.row (xqBitsF hi lo (i + 1)) := by
  refine XBits.row_congr fun p hp => ?_
  unfold xqBitsF
  by_cases h1 : p = 64 + i
  · subst h1
    rw [if_pos rfl, if_neg (by omega), show 64 + i - 64 = i by omega, if_pos (by omega)]
  rw [if_neg h1]
  by_cases h2 : p = i
  · subst h2
    rw [if_pos rfl, if_pos h, if_pos (by omega)]
  rw [if_neg h2]
  by_cases h3 : p < 64
  · rw [if_pos h3, if_pos h3]
    by_cases h4 : p < i
    · rw [if_pos h4, if_pos (by omega)]
    · rw [if_neg h4, if_neg (by omega)]
  · rw [if_neg h3, if_neg h3]
    by_cases h4 : p - 64 < i
    · rw [if_pos h4, if_pos (by omega)]
    · rw [if_neg h4, if_neg (by omega)]
theorem xqBitsF_end (hi lo : Nat) (hl : lo < 2 ^ 64) : XBits.row (xqBitsF hi lo 64) = XBits.bitsN (hi * 2 ^ 64 + lo) := by
  refine XBits.row_congr fun p hp => ?_
  unfold xqBitsF
  by_cases h3 : p < 64
  · rw [if_pos h3, if_pos h3, XBits.bit_low _ _ _ h3, XBits.cast_div]
    rfl
  · rw [if_neg h3, if_pos (by omega)]
    have := XBits.bit_high hi lo (p - 64) hl
    rw [show 64 + (p - 64) = p by omega] at this
    rw [this, XBits.cast_div]
    rfl
theorem xqBit_walk (n i : Nat) : wrap64 (((n : Int) / 2 ^ i).tmod 2) = (n : Int) / 2 ^ i % 2 := by
  have e := XBits.cast_div n i
  rw [e, Int.tmod_eq_emod_of_nonneg (Int.natCast_nonneg _)]
  unfold wrap64
  omega
set_option maxHeartbeats 8000000 in
set_option maxRecDepth 100000 in
theorem xqBits.calls (hi lo : Int) (w : World) (h0 : 0 ≤ lo) (h1 : lo < 18446744073709551616) :
    Calls Tryz.prog 45 #[.int .i64 hi, .int .u64 lo] w fun e w' => e = .returned (.agg (XBits.arr (XBits.bitsN (((hi % 18446744073709551616).toNat) * 2 ^ 64 + lo.toNat)))) ∧ Below w.heap.size w w' := by
  have HB := Aside0.mk (Below.refl w.heap.size w)
  obtain ⟨l, rfl⟩ := Int.eq_ofNat_of_zero_le h0
  obtain ⟨u, hu⟩ := Int.eq_ofNat_of_zero_le (Int.emod_nonneg hi (show (18446744073709551616 : Int) ≠ 0 by decide))
  rw [hu, Int.toNat_natCast, Int.toNat_natCast]
  have HU := Aside0.mk (show IntKind.u64.wrap hi = (u : Int) from hu)
  have HL := Aside0.mk (show l < 2 ^ 64 by omega)
  clear h0 h1 hu
  go_enter Tryz.func45, Tryz.ntmps45
  go_wp2_with fail
  have BK4 := Aside0.mk (blk_alloc (blk_new w (Obj.cells Tryz.zeroCells36 36)) (Obj.cells Tryz.zeroCells36 36))
  have BK5 := Aside0.mk (blk_new (w.alloc (Obj.cells Tryz.zeroCells36 36)) (Obj.cells Tryz.zeroCells36 36))
  have hsz : (w.alloc (Obj.cells Tryz.zeroCells36 36)).heap.size = w.heap.size + 1 := Array.size_push _
  rw [hsz, show Tryz.zeroCells36 = XBits.arr (XBits.row (xqBitsF u l 0)) by rw [show XBits.row (xqBitsF u l 0) = XBits.row (fun _ => 0) from XBits.row_congr (fun p _ => by unfold xqBitsF; split <;> rfl)]; kernel_rfl] at BK5
  clear hsz
  have HB2 := Aside0.mk (below_alloc (below_alloc HB.out (Obj.cells Tryz.zeroCells36 36)) (Obj.cells Tryz.zeroCells36 36))
  go_loopw [6] (fun v6 wr => ∃ i : Nat, i ≤ 64 ∧ v6 = .int .i64 i ∧ Aside0 (wr.heap[w.heap.size + 1]? = some (.cells (XBits.arr (XBits.row (xqBitsF u l i))) 36 (0, 0))) ∧ Aside0 (wr.heap[w.heap.size]? = some (.cells Tryz.zeroCells36 36 (0, 0))) ∧ Aside0 (Below w.heap.size w wr)) (fun v6 _ => 64 - (intOf v6).toNat)
  case atStart => exact ⟨0, by omega, rfl, BK5, BK4, HB2⟩
  case round =>
    clear BK4 BK5 HB2
    obtain ⟨i, hi', rfl, BK5, BK4, HB2⟩ := hrel
    by_cases hp : i < 64
    · have d0 : decide ((i : Int) < 64) = true := decide_eq_true (by omega)
      have q0 : (0 : Int) ≤ (i : Int) := by omega
      have q1 : (i : Int) < 128 := by omega
      have hz : wr.cell? ⟨w.heap.size + 1, i, none⟩ = some (.int .i64 (xqBitsF u l i i)) := (blk_cell BK5.out i).trans (XBits.arr_get _ i (by omega))
      have hf := blk_frozen BK5.out i
      have hq := xqBit_walk l i
      go_upto_region 6 with fail
      have BK5n := Aside0.mk (blk_set BK5.out i (.int .i64 ((l : Int) / 2 ^ i % 2)))
      rw [XBits.arr_set] at BK5n
      have BK4n := Aside0.mk (blk_far (p := ⟨w.heap.size + 1, i, none⟩) BK4.out (by simp) (.int .i64 ((l : Int) / 2 ^ i % 2)))
      have HB2n := Aside0.mk (below_set (g := w.heap.size + 1) (j := i) (v := .int .i64 ((l : Int) / 2 ^ i % 2)) HB2.out (by omega))
      clear BK5 BK4 HB2 hz hf hq
      generalize wr.setCell ⟨w.heap.size + 1, i, none⟩ (.int .i64 ((l : Int) / 2 ^ i % 2)) = wn at BK5n BK4n HB2n ⊢
      have hz := (blk_cell BK5n.out (64 + i)).trans (XBits.arr_get _ (64 + i) (by omega))
      rw [if_neg (by omega)] at hz
      have hf := blk_frozen BK5n.out (64 + i)
      have hq := xqBit_walk u i
      have hu := HU.out
      have p0 : (0 : Int) ≤ 64 + (i : Int) := by omega
      have p1 : 64 + (i : Int) < 128 := by omega
      have p2 : wrap64 (64 + (i : Int)) = 64 + (i : Int) := by unfold wrap64; omega
      have p3 : (64 + (i : Int)).toNat = 64 + i := by omega
      go_wp2
      go_roundw
      case rel =>
        have h9 := blk_set BK5n.out (64 + i) (.int .i64 ((u : Int) / 2 ^ i % 2))
        rw [XBits.arr_set, xqBitsF_step u l i hp] at h9
        exact ⟨i + 1, by omega, by go_num, ⟨h9⟩, ⟨blk_far (p := ⟨w.heap.size + 1, 64 + i, none⟩) BK4n.out (by simp) _⟩, ⟨below_set (g := w.heap.size + 1) HB2n.out (by omega)⟩⟩
      case measure => simp [intOf]; omega
    · have d0 : decide ((i : Int) < 64) = false := decide_eq_false (by omega)
      obtain rfl : i = 64 := by omega
      rw [xqBitsF_end u l HL.out] at BK5
      have hl4 : (Tryz.prog.info? 36).map (·.size) = some 128 := by kernel_rfl
      have hs4 : (XBits.arr (XBits.bitsN (u * 2 ^ 64 + l))).size = 128 := by rw [XBits.arr_size]; exact XBits.row_len _
      have hz4 : Tryz.zeroCells36.size = 128 := by kernel_rfl
      have HST := Aside0.mk (XMem.storeAt_run (P := Tryz.prog) wr w.heap.size 0 Tryz.zeroCells36 36 BK4.out 36 (XBits.arr (XBits.bitsN (u * 2 ^ 64 + l))) (by rw [hl4, hs4]) (by rw [hs4, hz4]; decide) (XBits.arr_one _))
      rw [XBits.row_whole (by rw [hs4, hz4])] at HST
      have HI := Aside0.mk (show (Tryz.prog.info? 36).map (·.size) = some (XBits.arr (XBits.bitsN (u * 2 ^ 64 + l))).size by rw [hl4, hs4])
      clear hl4 hs4 hz4
      go_wp2_with (first
        | (refine wpList_load_row rfl 36 (.tmp 5) rfl (w.heap.size + 1) rfl _ _ _ _ BK5.out Tryz.underlying36 rfl HI.out ?_)
        | (refine XMem.wpList_store rfl (ty := 36) (x := .tmp 4) (y := .tmp 27) rfl rfl rfl rfl HST.out ?_)
        | fail)
      have BK6 := XBits.setRow_at wr w.heap.size (XBits.arr (XBits.bitsN (u * 2 ^ 64 + l))) BK4.out
      exact bodyPost_ret (results_cell_row rfl _ _ w.heap.size _ _ _ _ rfl BK6 Tryz.underlying36 rfl HI.out) rfl ⟨rfl, Below.grown HB2.out (XMem.setRow_grown wr _ _) (below_size HB2.out) (fun j_ hj_ => by cases hj_; exact Nat.le_refl _)⟩
def xqAddF (a b i p : Nat) : Int := if p < i then XBits.bit (a + b) p else 0
theorem xqAddF_step (a b i : Nat) : XBits.row (fun p => if p = i then XBits.bit (a + b) i else xqAddF a b i p) = XBits.row (xqAddF a b (i + 1)) := by
  refine XBits.row_congr fun p hp => ?_
  unfold xqAddF
  by_cases h2 : p = i
  · subst h2
    rw [if_pos rfl, if_pos (by omega)]
  · rw [if_neg h2]
    by_cases h4 : p < i
    · rw [if_pos h4, if_pos (by omega)]
    · rw [if_neg h4, if_neg (by omega)]
theorem xqAddF_end (a b : Nat) : XBits.row (xqAddF a b 128) = XBits.bitsN (a + b) := XBits.row_congr fun p hp => if_pos hp
theorem xqAdd_bit (a b i : Nat) : (XBits.bit a i + XBits.bit b i + (XBits.carry a b i : Int)) % 2 = XBits.bit (a + b) i := by
  unfold XBits.bit
  rw [XBits.sum_bit]
  omega
theorem xqAdd_carry (a b i : Nat) : (XBits.bit a i + XBits.bit b i + (XBits.carry a b i : Int)) / 2 = (XBits.carry a b (i + 1) : Int) := by
  unfold XBits.bit
  rw [XBits.carry_succ]
  omega
theorem xqArr_sz (f : Nat → Int) : (XBits.arr (XBits.row f)).size = 128 := by rw [XBits.arr_size]; exact XBits.row_len _
set_option maxHeartbeats 8000000 in
set_option maxRecDepth 100000 in
theorem xqAdd.calls (a b : Nat) (w : World) :
    Calls Tryz.prog 44 #[.agg (XBits.arr (XBits.bitsN a)), .agg (XBits.arr (XBits.bitsN b))] w fun e w' => e = .returned (.agg (XBits.arr (XBits.bitsN (a + b)))) ∧ Below w.heap.size w w' := by
  have HB := Aside0.mk (Below.refl w.heap.size w)
  go_enter Tryz.func44, Tryz.ntmps44
  go_wp2_with fail
  have z0 := below_alloc HB.out (Obj.cells (XBits.arr (XBits.bitsN a)) 36)
  have z1 := below_alloc z0 (Obj.cells (XBits.arr (XBits.bitsN b)) 36)
  have z2 := below_alloc z1 (Obj.cells Tryz.zeroCells36 36)
  have HB2 := Aside0.mk (below_alloc z2 (Obj.cells Tryz.zeroCells36 36))
  have BA := Aside0.mk (blk_alloc (blk_alloc (blk_alloc (blk_new w (Obj.cells (XBits.arr (XBits.bitsN a)) 36)) (Obj.cells (XBits.arr (XBits.bitsN b)) 36)) (Obj.cells Tryz.zeroCells36 36)) (Obj.cells Tryz.zeroCells36 36))
  have BB := Aside0.mk (blk_alloc (blk_alloc (blk_new (w.alloc (Obj.cells (XBits.arr (XBits.bitsN a)) 36)) (Obj.cells (XBits.arr (XBits.bitsN b)) 36)) (Obj.cells Tryz.zeroCells36 36)) (Obj.cells Tryz.zeroCells36 36))
  have BR := Aside0.mk (blk_alloc (blk_new ((w.alloc (Obj.cells (XBits.arr (XBits.bitsN a)) 36)).alloc (Obj.cells (XBits.arr (XBits.bitsN b)) 36)) (Obj.cells Tryz.zeroCells36 36)) (Obj.cells Tryz.zeroCells36 36))
  have BO := Aside0.mk (blk_new (((w.alloc (Obj.cells (XBits.arr (XBits.bitsN a)) 36)).alloc (Obj.cells (XBits.arr (XBits.bitsN b)) 36)).alloc (Obj.cells Tryz.zeroCells36 36)) (Obj.cells Tryz.zeroCells36 36))
  have s1 : (w.alloc (Obj.cells (XBits.arr (XBits.bitsN a)) 36)).heap.size = w.heap.size + 1 := Array.size_push _
  have s2 : ((w.alloc (Obj.cells (XBits.arr (XBits.bitsN a)) 36)).alloc (Obj.cells (XBits.arr (XBits.bitsN b)) 36)).heap.size = w.heap.size + 1 + 1 := by rw [← s1]; exact Array.size_push _
  have s3 : (((w.alloc (Obj.cells (XBits.arr (XBits.bitsN a)) 36)).alloc (Obj.cells (XBits.arr (XBits.bitsN b)) 36)).alloc (Obj.cells Tryz.zeroCells36 36)).heap.size = w.heap.size + 1 + 1 + 1 := by rw [← s2]; exact Array.size_push _
  rw [s1] at BB
  rw [s2] at BR
  rw [s3] at BO
  clear s1 s2 s3 z0 z1 z2
  generalize (((w.alloc (Obj.cells (XBits.arr (XBits.bitsN a)) 36)).alloc (Obj.cells (XBits.arr (XBits.bitsN b)) 36)).alloc (Obj.cells Tryz.zeroCells36 36)).alloc (Obj.cells Tryz.zeroCells36 36) = w4 at BA BB BR BO HB2 ⊢
  rw [show Tryz.zeroCells36 = XBits.arr (XBits.row (xqAddF a b 0)) by rw [show XBits.row (xqAddF a b 0) = XBits.row (fun _ => 0) from XBits.row_congr (fun p _ => if_neg (Nat.not_lt_zero _))]; kernel_rfl] at BO
  go_loopw [6, 7] (fun v6 v7 wr => ∃ i : Nat, i ≤ 128 ∧ v6 = .int .i64 (XBits.carry a b i) ∧ v7 = .int .i64 i ∧ Aside0 (wr.heap[w.heap.size + 1 + 1 + 1]? = some (.cells (XBits.arr (XBits.row (xqAddF a b i))) 36 (0, 0))) ∧ Aside0 (wr.heap[w.heap.size]? = some (.cells (XBits.arr (XBits.bitsN a)) 36 (0, 0))) ∧ Aside0 (wr.heap[w.heap.size + 1]? = some (.cells (XBits.arr (XBits.bitsN b)) 36 (0, 0))) ∧ Aside0 (wr.heap[w.heap.size + 1 + 1]? = some (.cells Tryz.zeroCells36 36 (0, 0))) ∧ Aside0 (Below w.heap.size w wr)) (fun _ v7 _ => 128 - (intOf v7).toNat)
  case atStart => exact ⟨0, by omega, by rw [XBits.carry_zero]; rfl, rfl, BO, BA, BB, BR, HB2⟩
  case round =>
    clear BO BA BB BR HB2
    obtain ⟨i, hi, rfl, rfl, BO, BA, BB, BR, HB2⟩ := hrel
    by_cases hp : i < 128
    · have d0 : decide ((i : Int) < 128) = true := decide_eq_true (by omega)
      have q0 : (0 : Int) ≤ (i : Int) := by omega
      have q1 : (i : Int) < 128 := by omega
      have hA : wr.cell? ⟨w.heap.size, i, none⟩ = some (.int .i64 (XBits.bit a i)) := (blk_cell BA.out i).trans (XBits.arr_get _ i hp)
      have hB : wr.cell? ⟨w.heap.size + 1, i, none⟩ = some (.int .i64 (XBits.bit b i)) := (blk_cell BB.out i).trans (XBits.arr_get _ i hp)
      have ba := (XBits.bit01 a i).1
      have ba' := (XBits.bit01 a i).2
      have bb := (XBits.bit01 b i).1
      have bb' := (XBits.bit01 b i).2
      have bc : (XBits.carry a b i : Int) ≤ 1 := by have := XBits.carry_le a b i; omega
      go_upto_region 6 with fail
      go_quiet (fail)
      have BOn := Aside0.mk (blk_drewN BO.out nq)
      have BAn := Aside0.mk (blk_drewN BA.out nq)
      have BBn := Aside0.mk (blk_drewN BB.out nq)
      have BRn := Aside0.mk (blk_drewN BR.out nq)
      have HB2n := Aside0.mk (pw_below_drewN HB2.out nq)
      clear BO BA BB BR HB2 hA hB
      generalize wr.drewN nq = wn at BOn BAn BBn BRn HB2n ⊢
      have hz := (blk_cell BOn.out i).trans (XBits.arr_get _ i hp)
      have hf := blk_frozen BOn.out i
      have hq := xqAdd_bit a b i
      have hc := xqAdd_carry a b i
      go_wp2
      go_roundw
      case rel =>
        have h9 := blk_set BOn.out i (.int .i64 (XBits.bit (a + b) i))
        rw [XBits.arr_set, xqAddF_step] at h9
        exact ⟨i + 1, by omega, congrArg (Value.int .i64) hc, by go_num, ⟨h9⟩, ⟨blk_far (p := ⟨w.heap.size + 1 + 1 + 1, i, none⟩) BAn.out (show w.heap.size ≠ w.heap.size + 1 + 1 + 1 by omega) _⟩, ⟨blk_far (p := ⟨w.heap.size + 1 + 1 + 1, i, none⟩) BBn.out (show w.heap.size + 1 ≠ w.heap.size + 1 + 1 + 1 by omega) _⟩, ⟨blk_far (p := ⟨w.heap.size + 1 + 1 + 1, i, none⟩) BRn.out (by simp) _⟩, ⟨below_set (g := w.heap.size + 1 + 1 + 1) HB2n.out (by omega)⟩⟩
      case measure => simp [intOf]; omega
    · have d0 : decide ((i : Int) < 128) = false := decide_eq_false (by omega)
      obtain rfl : i = 128 := by omega
      rw [xqAddF_end] at BO
      have hl4 : (Tryz.prog.info? 36).map (·.size) = some 128 := by kernel_rfl
      have hs4 : (XBits.arr (XBits.bitsN (a + b))).size = 128 := by rw [XBits.arr_size]; exact XBits.row_len _
      have hz4 : Tryz.zeroCells36.size = 128 := by kernel_rfl
      have HST := Aside0.mk (XMem.storeAt_run (P := Tryz.prog) wr (w.heap.size + 1 + 1) 0 Tryz.zeroCells36 36 BR.out 36 (XBits.arr (XBits.bitsN (a + b))) (by rw [hl4, hs4]) (by rw [hs4, hz4]; decide) (XBits.arr_one _))
      rw [XBits.row_whole (by rw [hs4, hz4])] at HST
      have HI := Aside0.mk (show (Tryz.prog.info? 36).map (·.size) = some (XBits.arr (XBits.bitsN (a + b))).size by rw [hl4, hs4])
      clear hl4 hs4 hz4
      go_wp2_with (first
        | (refine wpList_load_row rfl 36 (.tmp 5) rfl (w.heap.size + 1 + 1 + 1) rfl _ _ _ _ BO.out Tryz.underlying36 rfl HI.out ?_)
        | (refine XMem.wpList_store rfl (ty := 36) (x := .tmp 4) (y := .tmp 28) rfl rfl rfl rfl HST.out ?_)
        | fail)
      have BK6 := XBits.setRow_at wr (w.heap.size + 1 + 1) (XBits.arr (XBits.bitsN (a + b))) BR.out
      exact bodyPost_ret (results_cell_row rfl _ _ (w.heap.size + 1 + 1) _ _ _ _ rfl BK6 Tryz.underlying36 rfl HI.out) rfl ⟨rfl, Below.grown HB2.out (XMem.setRow_grown wr _ _) (below_size HB2.out) (fun j_ hj_ => by cases hj_; omega)⟩
theorem xqNum_lo (n i : Nat) : (n % 2 ^ i : Nat) + (n / 2 ^ i % 2) * 2 ^ i = n % 2 ^ (i + 1) := by
  rw [XBits.mod_step, Nat.mul_comm]
theorem xqNum_bit (n i : Nat) (h : i < 64) : IntKind.u64.wrap (((n % 2 ^ i : Nat) : Int) + IntKind.u64.wrap (XBits.bit n i * 2 ^ i)) = ((n % 2 ^ (i + 1) : Nat) : Int) := by
  have h1 : XBits.bit n i * 2 ^ i = (((n / 2 ^ i % 2) * 2 ^ i : Nat) : Int) := by
    unfold XBits.bit
    rw [Int.natCast_mul, Int.natCast_pow]
    rfl
  have h2 := xqNum_lo n i
  have h3 : n % 2 ^ (i + 1) < 18446744073709551616 := Nat.lt_of_lt_of_le (Nat.mod_lt _ (XBits.two_pos _)) (Nat.pow_le_pow_right (by decide) (show i + 1 ≤ 64 by omega))
  show (_ + (_ % 18446744073709551616)) % 18446744073709551616 = _
  rw [h1]
  omega
set_option maxHeartbeats 8000000 in
set_option maxRecDepth 100000 in
theorem xqNum.calls (n : Nat) (w : World) (hn : n < 2 ^ 128) :
    Calls Tryz.prog 17 #[.agg (XBits.arr (XBits.bitsN n))] w fun e w' => e = .returned (.tuple #[.int .i64 (wrap64 ((n / 2 ^ 64 : Nat) : Int)), .int .u64 ((n % 2 ^ 64 : Nat) : Int)]) ∧ Below w.heap.size w w' := by
  have HB := Aside0.mk (Below.refl w.heap.size w)
  have HN := Aside0.mk hn
  clear hn
  go_enter Tryz.func17, Tryz.ntmps17
  go_wp2_with fail
  have BA := Aside0.mk (blk_new w (Obj.cells (XBits.arr (XBits.bitsN n)) 36))
  have HB2 := Aside0.mk (below_alloc HB.out (Obj.cells (XBits.arr (XBits.bitsN n)) 36))
  go_loopw [4, 5, 6] (fun v4 v5 v6 wr => ∃ i : Nat, i ≤ 64 ∧ v4 = .int .u64 (((n / 2 ^ 64) % 2 ^ i : Nat) : Int) ∧ v5 = .int .u64 ((n % 2 ^ i : Nat) : Int) ∧ v6 = .int .i64 i ∧ Aside0 (wr.heap[w.heap.size]? = some (.cells (XBits.arr (XBits.bitsN n)) 36 (0, 0))) ∧ Aside0 (Below w.heap.size w wr)) (fun _ _ v6 _ => 64 - (intOf v6).toNat)
  case atStart => exact ⟨0, by omega, by rw [Nat.pow_zero, Nat.mod_one]; rfl, by rw [Nat.pow_zero, Nat.mod_one]; rfl, rfl, BA, HB2⟩
  case round =>
    clear BA HB2
    obtain ⟨i, hi, rfl, rfl, rfl, BA, HB2⟩ := hrel
    by_cases hp : i < 64
    · have d0 : decide ((i : Int) < 64) = true := decide_eq_true (by omega)
      have q0 : (0 : Int) ≤ (i : Int) := by omega
      have q1 : (i : Int) < 128 := by omega
      have p0 : (0 : Int) ≤ 64 + (i : Int) := by omega
      have p1 : 64 + (i : Int) < 128 := by omega
      have p2 : wrap64 (64 + (i : Int)) = 64 + (i : Int) := by unfold wrap64; omega
      have p3 : (64 + (i : Int)).toNat = 64 + i := by omega
      have hA : wr.cell? ⟨w.heap.size, i, none⟩ = some (.int .i64 (XBits.bit n i)) := (blk_cell BA.out i).trans (XBits.arr_get _ i (by omega))
      have hB : wr.cell? ⟨w.heap.size, 64 + i, none⟩ = some (.int .i64 (XBits.bit (n / 2 ^ 64) i)) := by
        rw [blk_cell BA.out (64 + i)]
        refine (XBits.arr_get _ (64 + i) (by omega)).trans ?_
        unfold XBits.bit
        rw [Nat.pow_add, ← Nat.div_div_eq_div_mul]
      have ba := (XBits.bit01 n i).1
      have ba' := (XBits.bit01 n i).2
      have bb := (XBits.bit01 (n / 2 ^ 64) i).1
      have bb' := (XBits.bit01 (n / 2 ^ 64) i).2
      have H1 := Aside0.mk (xqNum_bit n i hp)
      have H2 := Aside0.mk (xqNum_bit (n / 2 ^ 64) i hp)
      generalize hm : n / 2 ^ 64 = m at *
      clear hm
      generalize ((n % 2 ^ i : Nat) : Int) = x at *
      generalize ((m % 2 ^ i : Nat) : Int) = y at *
      go_wp2
      go_roundw
      case rel =>
        rw [H1.out, H2.out]
        exact ⟨i + 1, by omega, rfl, rfl, by go_num, BA, HB2⟩
      case measure => simp [intOf]; omega
    · have d0 : decide ((i : Int) < 64) = false := decide_eq_false (by omega)
      obtain rfl : i = 64 := by omega
      have hm : n / 2 ^ 64 < 2 ^ 64 := Nat.div_lt_of_lt_mul (by rw [← Nat.pow_add]; exact HN.out)
      rw [Nat.mod_eq_of_lt hm]
      clear hm
      obtain ⟨M, hM⟩ : ∃ M : Int, M = ((n / 2 ^ 64 : Nat) : Int) := ⟨_, rfl⟩
      obtain ⟨L, hL⟩ : ∃ L : Int, L = ((n % 2 ^ 64 : Nat) : Int) := ⟨_, rfl⟩
      rw [← hM, ← hL]
      have HMM := Aside0.mk hM
      have HLL := Aside0.mk hL
      clear hM hL
      go_wp2
      go_ret2
      rw [← HMM.out, ← HLL.out]
      exact ⟨rfl, HB2.out⟩
theorem xqBits_at (n : Int) (hn : -9223372036854775808 ≤ n ∧ n < 9223372036854775808) (W : World) : Calls Tryz.prog 45 #[.int .i64 (n / 9223372036854775808), .int .u64 (IntKind.u64.wrap n)] W fun e w' => e = .returned (XArr.arrV (wof n)) ∧ Below W.heap.size W w' := by
  have hu : IntKind.u64.wrap n = n % 18446744073709551616 := rfl
  have h := xqBits.calls (n / 9223372036854775808) (IntKind.u64.wrap n) W (by rw [hu]; omega) (by rw [hu]; omega)
  rw [XArr.bits_of n hn] at h
  exact h
theorem xqAdd_at (a b : Int × Int) (ha : PWide.InR a) (hb : PWide.InR b) (W : World) : Calls Tryz.prog 44 #[XArr.arrV a, XArr.arrV b] W fun e w' => e = .returned (XArr.arrV (wadd a b)) ∧ Below W.heap.size W w' := by
  have h := xqAdd.calls (XArr.nW a) (XArr.nW b) W
  rw [XArr.add_of ha hb] at h
  exact h
theorem xqNum_at (c : Int × Int) (hc : PWide.InR c) (W : World) : Calls Tryz.prog 17 #[XArr.arrV c] W fun e w' => e = .returned (.tuple #[.int .i64 c.1, .int .u64 c.2]) ∧ Below W.heap.size W w' := by
  have h := xqNum.calls (XArr.nW c) W (XArr.nW_lt c)
  rw [(XArr.num_of hc).1, (XArr.num_of hc).2] at h
  exact h
theorem xqZeroArrV (w : World) : (zeroValue 36).run Tryz.prog w = .ok (XArr.arrV (0, 0)) w := by
  unfold XArr.arrV
  rw [XArr.zeroArr]
  kernel_rfl
set_option maxHeartbeats 8000000 in
set_option maxRecDepth 100000 in
theorem xqLsums.calls (A0 : Option Addr) (c0 : Nat) (l0 : List S28) (w : World) (hr0 : Kd.C k28 w A0 l0.length l0) (hl : l0.length ≤ 1000000000) (hwf : ∀ x ∈ l0, (Lit.int .u16 x.f1).wf = true) (hwi : ∀ x ∈ l0, (Lit.int .i64 x.f3).wf = true) :
    Calls Tryz.prog 16 #[.slice A0 l0.length c0] w fun e w' => ∃ (b : Nat) (D : XMap.DM), e = .returned (.map (some b)) ∧ w.heap.size ≤ b ∧ w'.ownsMap Tryz.prog 26 XArr.arrR b l0.length D ∧ XMap.SumsOf wadd D (jsum l0) ∧ Below w.heap.size w w' := by
  have hu1 := Tryz.underlying28
  have HR0 := Aside0.mk hr0
  have HW := Aside0.mk hwf
  have HW2 := Aside0.mk hwi
  clear hr0 hwf hwi
  have HB := Aside0.mk (Below.refl w.heap.size w)
  have hmm := @run_makeMap Tryz.prog
  go_enter Tryz.func16, Tryz.ntmps16
  go_wp2
  go_loopw [9] (fun v9 wr => ∃ (j : Nat) (D : XMap.DM), j ≤ l0.length ∧ v9 = .int .i64 j ∧ Aside0 (wr.ownsMap Tryz.prog 26 XArr.arrR w.heap.size j D) ∧ Aside0 (XMap.SumsOf wadd D (jsum (l0.take j))) ∧ Aside0 (Below w.heap.size w wr)) (fun v9 _ => l0.length - (intOf v9).toNat)
  case atStart =>
    refine ⟨0, _, Nat.zero_le _, rfl, ⟨World.ownsMap_made (H := Unit) w Tryz.prog 26 XArr.arrR⟩, ⟨XMap.SumsOf.empty wadd⟩, ⟨?_⟩⟩
    · repeat (first | exact HB.out | apply below_alloc | apply pw_below_drewN | apply below_drew1)
  case round =>
    obtain ⟨j, D, hj, rfl, HM, HS, HB⟩ := hrel
    by_cases hp : j < l0.length
    · have d0 : decide ((j : Int) < (l0.length : Int)) = true := decide_eq_true (by omega)
      obtain ⟨ad, rfl, hc0, hc1, hc2, hc3⟩ := at_T28 (Kd.C_below HR0.out HB.out) (j : Int) (by omega) (by omega)
      rw [Int.toNat_natCast] at hc0 hc1 hc2 hc3
      have hrd : rd_T28 l0 (j : Int) = l0[j] := by
        show l0.getD (j : Int).toNat _ = _
        rw [Int.toNat_natCast, List.getD_eq_getElem?_getD, List.getElem?_eq_getElem hp]
        rfl
      rw [hrd] at hc0 hc1 hc2 hc3
      go_upto_region 5 with fail
      have BK := Aside0.mk (blk_new wr (Obj.cells #[.int .u32 l0[j].f0, .int .u16 l0[j].f1, .int .u16 l0[j].f2, .int .i64 l0[j].f3] 28))
      have HM1 := Aside0.mk (HM.out.alloc (Obj.cells #[.int .u32 l0[j].f0, .int .u16 l0[j].f1, .int .u16 l0[j].f2, .int .i64 l0[j].f3] 28))
      have HB1 := Aside0.mk (below_alloc HB.out (Obj.cells #[.int .u32 l0[j].f0, .int .u16 l0[j].f1, .int .u16 l0[j].f2, .int .i64 l0[j].f3] 28))
      obtain ⟨g5, hg5⟩ : ∃ g, g = wr.heap.size := ⟨_, rfl⟩
      have HN5 := Aside0.mk (show w.heap.size < g5 by rw [hg5]; exact HM.out.lt)
      rw [← hg5] at BK ⊢
      clear hc0 hc1 hc2 hc3 HM HB hg5
      generalize wr.alloc (Obj.cells #[.int .u32 l0[j].f0, .int .u16 l0[j].f1, .int .u16 l0[j].f2, .int .i64 l0[j].f3] 28) = w1 at BK HM1 HB1 ⊢
      have HWF : (Lit.int .u16 l0[j].f1).wf = true := HW.out _ (List.getElem_mem hp)
      have HR3 := Aside0.mk (PWide.i64_in (HW2.out _ (List.getElem_mem hp)))
      obtain ⟨c, hc⟩ : ∃ c, c = XMap.sumOf wadd (jsum (l0.take j)) l0[j].f1 := ⟨_, rfl⟩
      have HIN := Aside0.mk (show PWide.InR c by rw [hc]; exact PWide.turn_in _ (fun x hx => HW2.out x (List.mem_of_mem_take hx)) _)
      have HIO := Aside0.mk (PWide.of_spec HR3.out).1
      have hkey := Go.Maps.keyOf_int_mk Tryz.underlying26 HWF
      have HAT := Aside0.mk (show D.atKey (XMap.key l0[j].f1) (XMap.wideD (0, 0)) = XMap.wideD c by rw [hc]; exact HS.out.look _)
      have HRA := Aside0.mk (show ∀ wx : World, wx.ownsMap Tryz.prog 26 XArr.arrR w.heap.size j D → (Instr.lookup 34 (.map (some w.heap.size)) (.int .u16 l0[j].f1) false).run Tryz.prog wx = .ok (XArr.arrV c) wx from fun wx h => XArr.run_lookup h lawU16 Tryz.underlying34 (xqZeroArrV _) hkey HAT.out)
      have HLJ := Aside0.mk (show j < maxLen by unfold maxLen; omega)
      have HK := Aside0.mk hkey
      have HC := Aside0.mk hc
      clear hkey hc HWF
      have hr1 := HRA.out _ HM1.out.drew
      go_region_held3 (fun wx => wx.cell? ⟨g5, 1, none⟩ = some (.int .u16 l0[j].f1) ∧ wx.cell? ⟨g5, 3, none⟩ = some (.int .i64 l0[j].f3))
        (first | exact ⟨(blk_cell BK4.out 1).trans rfl, (blk_cell BK4.out 3).trans rfl⟩ | exact ⟨(blk_cell (blk_drew BK.out) 1).trans rfl, (blk_cell (blk_drew BK.out) 3).trans rfl⟩ | exact ⟨(blk_cell BK.out 1).trans rfl, (blk_cell BK.out 3).trans rfl⟩)
        (first
          | (go_at_call 45; (with_reducible refine (xqBits_at l0[j].f3 HR3.out _).mono ?_); rintro e w2 ⟨rfl, hb2⟩; have n0_ := Aside0.mk (XMap.own_below HM1.out.drew hb2); have n1_ := Aside0.mk (blk_below (blk_drew BK.out) hb2); have n2_ := Aside0.mk (below_step (below_drew HB1.out) hb2); clear BK HM1 HB1 hb2; have HM1 := n0_; have BK := n1_; have HB1 := n2_; clear n0_ n1_ n2_; have hr1 := HRA.out _ HM1.out)
          | (go_at_call 44; (with_reducible refine (xqAdd_at c (wof l0[j].f3) HIN.out HIO.out _).mono ?_); rintro e w2 ⟨rfl, hb2⟩; have n0_ := Aside0.mk (XMap.own_below HM1.out hb2); have n1_ := Aside0.mk (blk_below BK.out hb2); have n2_ := Aside0.mk (below_step HB1.out hb2); clear HM1 BK HB1 hb2; have HM1 := n0_; have BK := n1_; have HB1 := n2_; clear n0_ n1_ n2_; obtain ⟨w4, hup, HM4, HG4⟩ := World.ownsMap.update HM1.out lawU16 Tryz.underlying34 HLJ.out HK.out (XArr.arrR_mk (PWide.add_spec HIN.out HIO.out).1); have BK4 := Aside0.mk (blk_grown BK.out HG4 (by simp; have := HN5.out; omega)); have HB4 := Aside0.mk (Below.grown HB1.out HG4 (below_size HB1.out) (fun j_ hj_ => by cases hj_; exact Nat.le_refl _)))
          | fail)
      all_goals
        go_wp2
        go_roundw
        case rel =>
          refine ⟨j + 1, _, by omega, by go_num, ⟨HM4⟩, ⟨?_⟩, HB4⟩
          rw [show jsum (l0.take (j + 1)) = jsum (l0.take j) ++ [(l0[j].f1, wof l0[j].f3)] by unfold jsum; rw [List.take_succ_eq_append_getElem hp, List.map_append]; rfl]
          have := XMap.SumsOf.step HS.out (l0[j].f1, wof l0[j].f3)
          rw [← HC.out] at this
          exact this
        case measure => simp [intOf]; omega
    · have d0 : decide ((j : Int) < (l0.length : Int)) = false := decide_eq_false (by omega)
      obtain rfl : j = l0.length := by omega
      go_wp2
      go_ret
      rw [List.take_length] at HS
      exact ⟨_, D, rfl, Nat.le_refl _, HM.out, HS.out, HB.out⟩
theorem xqLsums_at (A : Option Addr) (n c : Nat) (l : List S28) (W : World) (hn : n = l.length) (h : Kd.C k28 W A n l) (hl : n ≤ 1000000000) (hwf : ∀ x ∈ l, (Lit.int .u16 x.f1).wf = true) (hwi : ∀ x ∈ l, (Lit.int .i64 x.f3).wf = true) : Calls Tryz.prog 16 #[.slice A n c] W fun e w' => ∃ (b : Nat) (D : XMap.DM), e = .returned (.map (some b)) ∧ W.heap.size ≤ b ∧ w'.ownsMap Tryz.prog 26 XArr.arrR b n D ∧ XMap.SumsOf wadd D (jsum l) ∧ Below W.heap.size W w' := by
  subst hn
  exact xqLsums.calls A c l W h hl hwf hwi
theorem xqEq0 (c : Int × Int) (h : PWide.InR c) (wx : World) : (Op.equalIn 10000 36 (.agg (XBits.arr (XBits.bitsN (XArr.nW c)))) (.agg Tryz.zeroCells36)).run Tryz.prog wx = .ok (decide (c = (0, 0))) wx := by
  obtain ⟨i, hi, _⟩ := Option.map_eq_some_iff.1 (show (Tryz.prog.info? 3).map (fun i => i.size) = some 1 by kernel_rfl)
  have e := XBits.eq_rows (P := Tryz.prog) wx 9998 Tryz.underlying36 hi (by kernel_rfl) Tryz.underlying3 (XBits.bit (XArr.nW c)) (fun _ => 0)
  rw [XArr.all_zero c h] at e
  rw [show Tryz.zeroCells36 = XBits.arr (XBits.row (fun _ => 0)) by kernel_rfl]
  exact e
def transposallaw09_Check.f (k : Nat) (d : Int) (l : List S28) : Option Int :=
  (transposallaw04_Number.f k 1 1 1).bind fun lo => (transposallaw04_Number.f k 9999 12 31).bind fun hi => if (l.all (fun x => (Lit.int .u16 x.f1).wf && (Lit.int .i64 x.f3).wf) && decide (-2147483648 ≤ d ∧ d ≤ 2147483647)) = true then some (if d < lo then 13 else if d > hi then 13 else if l.length < 1 then 2 else if l.length > 60 then 2 else if l.any badLine = true then 5 else if XMap.allNone wadd (jsum l) = true then 0 else 14) else none
theorem transposallaw09_Check.mono : ∀ a0 a1 k, LeO (transposallaw09_Check.f k a0 a1) (transposallaw09_Check.f (k + 1) a0 a1) := by
  intro a0 a1 k
  unfold transposallaw09_Check.f
  exact LeO.bind (transposallaw04_Number.mono _ _ _ _) (fun _ => LeO.bind (transposallaw04_Number.mono _ _ _ _) (fun _ => LeO.refl _))
set_option maxHeartbeats 8000000 in
set_option maxRecDepth 100000 in
theorem transposallaw09_Check.calls (k : Nat) (a0 : Int) (A1 : Option Addr) (c1 : Nat) (l1 : List S28) (r : Int) (w : World) (hr1 : Kd.C k28 w A1 l1.length l1) (hc1 : l1.length ≤ c1) (h : transposallaw09_Check.f k a0 l1 = some r) :
    Calls Tryz.prog 19 #[.agg #[.int .i32 a0, .slice A1 l1.length c1]] w fun e w' => e = .returned (.int .i64 r) ∧ Below w.heap.size w w' := by
  have hu1 := Tryz.underlying28
  have hu3 := Tryz.underlying32
  have HR1 := Aside0.mk hr1
  clear hr1
  have HB := Aside0.mk (below_alloc (Below.refl w.heap.size w) (Obj.cells #[.int .i32 a0, .slice A1 l1.length c1] 32))
  have BK := Aside0.mk (blk_new w (Obj.cells #[.int .i32 a0, .slice A1 l1.length c1] 32))
  unfold transposallaw09_Check.f at h
  obtain ⟨lo, L10, H1⟩ := Option.bind_eq_some_iff.mp h
  obtain ⟨hi, L20, H⟩ := Option.bind_eq_some_iff.mp H1
  have L1 := Aside0.mk L10
  have L2 := Aside0.mk L20
  clear L10 L20 h H1
  by_cases hwf : (l1.all (fun x => (Lit.int .u16 x.f1).wf && (Lit.int .i64 x.f3).wf) && decide (-2147483648 ≤ a0 ∧ a0 ≤ 2147483647)) = true
  case neg => rw [if_neg hwf] at H; cases H
  rw [if_pos hwf] at H
  rw [Bool.and_eq_true, List.all_eq_true, decide_eq_true_iff] at hwf
  obtain ⟨hwf, hd0, hd1⟩ := hwf
  have hdw : IntKind.i64.wrap a0 = a0 := by simp only [IntKind.wrap, IntKind.signed, IntKind.bits]; simp; omega
  have HW := Aside0.mk (show ∀ x ∈ l1, (Lit.int .u16 x.f1).wf = true from fun x hx => (Bool.and_eq_true _ _ ▸ hwf x hx).1)
  have HW2 := Aside0.mk (show ∀ x ∈ l1, (Lit.int .i64 x.f3).wf = true from fun x hx => (Bool.and_eq_true _ _ ▸ hwf x hx).2)
  replace H := Option.some.inj H
  clear hwf
  have HE := Aside0.mk H
  clear H
  go_enter Tryz.func19, Tryz.ntmps19
  go_upto_region 1 with fail
  generalize w.alloc (Obj.cells #[.int .i32 a0, .slice A1 l1.length c1] 32) = w1 at HB BK ⊢
  by_cases c22 : a0 < lo
  · have c22b0 : decide (a0 < lo) = true := decide_eq_true c22
    have HE2 := HE.out
    rw [if_pos c22] at HE2
    subst HE2
    clear c22 HE
    have hz0 : w1.cell? ⟨w.heap.size, 0, none⟩ = some (.int .i32 a0) := (blk_cell BK.out 0).trans rfl
    go_quiet ((go_at_call 47; exact Calls.quiet_of ((transposallaw04_Number.calls k 1 1 1 lo _ L1.out).mono fun _ _ h_ => ⟨h_.1, h_.2.out⟩)))
    all_goals go_wp2
    all_goals go_ret
    all_goals exact ⟨rfl, pw_below_drewN HB.out _⟩
  have c22b0 : decide (a0 < lo) = false := decide_eq_false c22
  have HE1 := HE.out
  rw [if_neg c22] at HE1
  clear HE c22
  have HE := Aside0.mk HE1
  clear HE1
  by_cases c23 : a0 > hi
  · have c23b0 : decide (a0 > hi) = true := decide_eq_true c23
    have HE2 := HE.out
    rw [if_pos c23] at HE2
    subst HE2
    clear c23 HE
    go_region_held3 (fun wx => wx.cell? ⟨w.heap.size, 0, none⟩ = some (.int .i32 a0)) (first | exact (blk_cell (blk_drew BK.out) 0).trans rfl | exact (blk_cell BK.out 0).trans rfl)
      (first
        | (go_at_call 47; (with_reducible refine (transposallaw04_Number.calls k 1 1 1 lo _ L1.out).mono ?_); rintro e w2 ⟨rfl, hd⟩; have n0_ := Aside0.mk (blk_below (blk_drew BK.out) hd.below); have n1_ := Aside0.mk (below_step (below_drew HB.out) hd.below); clear BK HB hd; have BK := n0_; have HB := n1_; clear n0_ n1_)
        | (go_at_call 47; (with_reducible refine (transposallaw04_Number.calls k 9999 12 31 hi _ L2.out).mono ?_); rintro e w2 ⟨rfl, hd⟩; have n0_ := Aside0.mk (blk_below BK.out hd.below); have n1_ := Aside0.mk (below_step HB.out hd.below); clear BK HB hd; have BK := n0_; have HB := n1_; clear n0_ n1_)
        | fail)
    all_goals go_wp2
    all_goals go_ret
    all_goals exact ⟨rfl, HB.out⟩
  have c23b0 : decide (a0 > hi) = false := decide_eq_false c23
  have HE1 := HE.out
  rw [if_neg c23] at HE1
  clear HE c23
  have HE := Aside0.mk HE1
  clear HE1
  go_region_held3 (fun wx => wx.cell? ⟨w.heap.size, 0, none⟩ = some (.int .i32 a0)) (first | exact (blk_cell (blk_drew BK.out) 0).trans rfl | exact (blk_cell BK.out 0).trans rfl)
    (first
      | (go_at_call 47; (with_reducible refine (transposallaw04_Number.calls k 1 1 1 lo _ L1.out).mono ?_); rintro e w2 ⟨rfl, hd⟩; have n0_ := Aside0.mk (blk_below (blk_drew BK.out) hd.below); have n1_ := Aside0.mk (below_step (below_drew HB.out) hd.below); clear BK HB hd; have BK := n0_; have HB := n1_; clear n0_ n1_)
      | (go_at_call 47; (with_reducible refine (transposallaw04_Number.calls k 9999 12 31 hi _ L2.out).mono ?_); rintro e w3 ⟨rfl, hd⟩; have n0_ := Aside0.mk (blk_below BK.out hd.below); have n1_ := Aside0.mk (below_step HB.out hd.below); clear BK HB hd; have BK := n0_; have HB := n1_; clear n0_ n1_)
      | fail)
  go_upto_region 3 with fail
  have hz1 : w3.cell? ⟨w.heap.size, 1, none⟩ = some (.slice A1 l1.length c1) := (blk_cell BK.out 1).trans rfl
  by_cases c1' : l1.length < 1
  · have d1 : decide ((l1.length : Int) < 1) = true := decide_eq_true (by omega)
    have HE2 := HE.out
    rw [if_pos c1'] at HE2
    subst HE2
    clear HE
    go_wp2
    go_ret
    exact ⟨rfl, HB.out⟩
  have d1 : decide ((l1.length : Int) < 1) = false := decide_eq_false (by omega)
  have HE1 := HE.out
  rw [if_neg c1'] at HE1
  clear HE
  have HE := Aside0.mk HE1
  clear HE1
  by_cases c2' : l1.length > 60
  · have d2 : decide ((l1.length : Int) > 60) = true := decide_eq_true (by omega)
    have d3 : decide (60 < l1.length) = true := decide_eq_true (by omega)
    have HE2 := HE.out
    rw [if_pos c2'] at HE2
    subst HE2
    clear HE
    go_wp2
    go_ret
    exact ⟨rfl, HB.out⟩
  have d2 : decide ((l1.length : Int) > 60) = false := decide_eq_false (by omega)
  have d3 : decide (60 < l1.length) = false := decide_eq_false (by omega)
  have HE1 := HE.out
  rw [if_neg c2'] at HE1
  clear HE
  have HE := Aside0.mk HE1
  clear HE1
  go_upto_block 0 with fail
  clear hz1
  go_wp2_with fail
  go_loopw [32] (fun v32 wr => ∃ j : Nat, j ≤ l1.length ∧ v32 = .int .i64 j ∧ Aside0 (∀ i (h : i < l1.length), i < j → badLine l1[i] = false) ∧ Aside0 (wr.heap[w.heap.size]? = some (.cells #[.int .i32 a0, .slice A1 l1.length c1] 32 (0, 0))) ∧ Aside0 (Below w.heap.size w wr)) (fun v32 _ => l1.length - (intOf v32).toNat)
  case atStart => exact ⟨0, Nat.zero_le _, rfl, ⟨fun i _ h => absurd h (Nat.not_lt_zero _)⟩, BK, HB⟩
  case round =>
    clear HB BK
    obtain ⟨j, hj, rfl, HN, BK, HB⟩ := hrel
    by_cases hp : j < l1.length
    · have d0 : decide ((j : Int) < (l1.length : Int)) = true := decide_eq_true (by omega)
      obtain ⟨ad, rfl, hc0, hc1, hc2, hc3⟩ := at_T28 (Kd.C_below HR1.out HB.out) (j : Int) (by omega) (by omega)
      rw [Int.toNat_natCast] at hc0 hc1 hc2 hc3
      have hrd : rd_T28 l1 (j : Int) = l1[j] := by
        show l1.getD (j : Int).toNat _ = _
        rw [Int.toNat_natCast, List.getD_eq_getElem?_getD, List.getElem?_eq_getElem hp]
        rfl
      rw [hrd] at hc0 hc1 hc2 hc3
      clear hrd
      by_cases hb0 : badLine l1[j] = true
      · have HE2 := HE.out
        rw [if_pos (List.any_eq_true.mpr ⟨_, List.getElem_mem hp, hb0⟩)] at HE2
        subst HE2
        clear HE
        by_cases h0 : l1[j].f3 = 0
        · have e0 : (l1[j].f3 == 0) = true := beq_iff_eq.mpr h0
          rw [h0] at hc3
          clear h0
          go_wp2
          go_ret
          exact ⟨rfl, by repeat (first | exact HB.out | apply below_alloc)⟩
        · have h1 : l1[j].f3 = -9223372036854775808 := by
            unfold badLine at hb0
            rw [Bool.or_eq_true, beq_iff_eq, beq_iff_eq] at hb0
            exact hb0.resolve_left h0
          rw [h1] at hc3
          clear h0 h1
          go_wp2
          go_ret
          exact ⟨rfl, by repeat (first | exact HB.out | apply below_alloc)⟩
      · have hb1 : badLine l1[j] = false := (Bool.not_eq_true _).mp hb0
        have hb2 := hb1
        unfold badLine at hb2
        rw [Bool.or_eq_false_iff] at hb2
        have e0 := hb2.1
        have e1 := hb2.2
        clear hb0 hb2
        go_wp2
        go_roundw
        case rel =>
          refine ⟨j + 1, by omega, by go_num, ⟨fun i h hlt => ?_⟩, ⟨?_⟩, ⟨by repeat (first | exact HB.out | apply below_alloc)⟩⟩
          · rcases Nat.lt_or_ge i j with h2 | h2
            · exact HN.out i h h2
            · obtain rfl : i = j := by omega
              exact hb1
          · exact (World.grownBy_alloc _ _ none).block _ (blk_lt BK.out) (by simp) |>.trans BK.out
        case measure => simp [intOf]; omega
    · have d0 : decide ((j : Int) < (l1.length : Int)) = false := decide_eq_false (by omega)
      obtain rfl : j = l1.length := by omega
      have hany : l1.any badLine = false := by
        rw [List.any_eq_false]
        intro x hx
        obtain ⟨i, hi, rfl⟩ := List.getElem_of_mem hx
        rw [HN.out i hi hi]
        simp
      have HE1 := HE.out
      rw [if_neg (by rw [hany]; exact Bool.false_ne_true)] at HE1
      clear HE HN
      have HE := Aside0.mk HE1
      clear HE1 hany
      have hz0 : wr.cell? ⟨w.heap.size, 0, none⟩ = some (.int .i32 a0) := (blk_cell BK.out 0).trans rfl
      have hz1 : wr.cell? ⟨w.heap.size, 1, none⟩ = some (.slice A1 l1.length c1) := (blk_cell BK.out 1).trans rfl
      have HL := Aside0.mk (show l1.length ≤ 1000000000 by omega)
      go_wp2_with (first
        | (go_at_call 16; (with_reducible refine (xqLsums.calls A1 c1 l1 _ (Kd.C_below HR1.out HB.out) HL.out HW.out HW2.out).mono ?_); rintro e w7 ⟨b, D, rfl, hb1, hm, hs, hbl⟩; have HM := Aside0.mk hm; have HS := Aside0.mk hs; have n0_ := Aside0.mk (below_step HB.out hbl); have HBG := Aside0.mk (show w.heap.size ≤ b from Nat.le_trans (below_size HB.out) hb1); clear HB hm hs hbl hb1; have HB := n0_; clear n0_)
        | (at_range; refine wpList_range_own _ rfl _ 34 rfl 26 36 lawU16 Tryz.underlying34 XArr.arrR b l1.length D rfl HM.out ?_; intro w8 hrg0 hg0 hs0; have HR0 := Aside0.mk hrg0; have n0_ := Aside0.mk (Below.grown HB.out hg0 (below_size HB.out) (fun j_ hj_ => by cases hj_)); have HRG := Aside0.mk (show w.heap.size ≤ w7.heap.size from below_size HB.out); clear HB hrg0 hg0 hs0; have HB := n0_; clear n0_)
        | go_in)
      go_frame
      generalize w7.heap.size = rr at HR0 HRG ⊢
      go_loopw [49] (fun _ wr => ∃ (left : Lit → Bool) (cnt : Nat), Aside0 (wr.ranges Tryz.prog 26 XArr.arrR b rr l1.length D left cnt) ∧ Aside0 (∀ m, Go.Maps.has D (XMap.key m) = true → left (XMap.key m) = false → XMap.sumOf wadd (jsum l1) m = (0, 0)) ∧ Aside0 (Below w.heap.size w wr)) (fun _ wr => wr.rangeLeft b rr)
      case atStart => exact ⟨_, _, HR0, ⟨fun m h h' => absurd (h.symm.trans h') (by decide)⟩, HB⟩
      case round =>
        clear HB
        obtain ⟨left, cnt, HRr, HZ, HB⟩ := hrel
        go_wp2_with (first
          | (at_next; refine XArr.wpList_next_arr rfl _ rfl 26 lawU16 Tryz.underlying26 b rr l1.length D left cnt rfl HRr.out ?_ ?_)
          | go_in)
        · intro hl0
          have hz : XMap.allNone wadd (jsum l1) = true := (XMap.allNone_iff HS.out).2 (fun n hn => HZ.out n hn (hl0.is _))
          have HE2 := HE.out
          rw [if_pos hz] at HE2
          subst HE2
          clear hz HE
          go_wp2
          go_ret
          exact ⟨rfl, HB.out⟩
        · intro x q1 q2 w9 cnt1 hwx hat hin hrg hlt hgr hen
          obtain ⟨c, hc⟩ : ∃ c, c = (q1, q2) := ⟨_, rfl⟩
          rw [← hc] at hat hin hen ⊢
          unfold XArr.arrV at hen ⊢
          have HCC := Aside0.mk hc
          clear hc
          have HSU := Aside0.mk (show XMap.sumOf wadd (jsum l1) x = c from XMap.wideD_inj ((HS.out.look x).symm.trans (hat _)))
          have HHA := Aside0.mk (show Go.Maps.has D (XMap.key x) = true from Go.Maps.has_true_of_atKey hat)
          have HLE := Aside0.mk (show cnt1 < wr.rangeLeft b rr by rw [HRr.out.left_eq]; exact hlt)
          have HIN := Aside0.mk hin
          have hl4 : (Tryz.prog.info? 36).map (·.size) = some 128 := by kernel_rfl
          have hs4 : (XBits.arr (XBits.bitsN (XArr.nW c))).size = 128 := by rw [XBits.arr_size]; exact XBits.row_len _
          have hz4 : Tryz.zeroCells36.size = 128 := by kernel_rfl
          have BN := Aside0.mk (blk_new w9 (Obj.cells Tryz.zeroCells36 36))
          have HST := Aside0.mk (XMem.storeAt_run (P := Tryz.prog) (w9.alloc (Obj.cells Tryz.zeroCells36 36)) w9.heap.size 0 Tryz.zeroCells36 36 BN.out 36 (XBits.arr (XBits.bitsN (XArr.nW c))) (by rw [hl4, hs4]) (by rw [hs4, hz4]; decide) (XBits.arr_one _))
          rw [XBits.row_whole (by rw [hs4, hz4])] at HST
          have HI := Aside0.mk (show (Tryz.prog.info? 36).map (·.size) = some (XBits.arr (XBits.bitsN (XArr.nW c))).size by rw [hl4, hs4])
          have BN2 := Aside0.mk (XBits.setRow_at (w9.alloc (Obj.cells Tryz.zeroCells36 36)) w9.heap.size (XBits.arr (XBits.bitsN (XArr.nW c))) BN.out)
          have hgs := XMem.setRow_grown (w9.alloc (Obj.cells Tryz.zeroCells36 36)) w9.heap.size (XBits.arr (XBits.bitsN (XArr.nW c)))
          have hb9 := Below.grown HB.out hgr (below_size HB.out) (fun j_ hj_ => by cases hj_; exact HRG.out)
          have HB1 := Aside0.mk (Below.grown (below_alloc hb9 (Obj.cells Tryz.zeroCells36 36)) hgs (below_size (below_alloc hb9 _)) (fun j_ hj_ => by cases hj_; exact below_size hb9))
          have HR2 := Aside0.mk ((hrg.alloc (Obj.cells Tryz.zeroCells36 36)).kept hgs (by rw [Ne, Option.some.injEq]; have := hrg.owns.lt; omega) (by rw [Ne, Option.some.injEq]; have := hrg.lt; omega))
          clear hwx hat hin hrg hlt hgr hl4 hs4 hz4 HB BN hgs hb9
          have heq : ∀ wx : World, (Op.equalIn 10000 36 (.agg (XBits.arr (XBits.bitsN (XArr.nW c)))) (.agg Tryz.zeroCells36)).run Tryz.prog wx = .ok (decide (c = (0, 0))) wx := xqEq0 c HIN.out
          by_cases hc0 : c = (0, 0)
          · rw [decide_eq_true hc0] at heq
            have HC0 := Aside0.mk hc0
            clear hc0
            go_wp2_with (first
              | (refine XMem.wpList_store rfl (ty := 36) (x := .tmp 6) (y := .tmp 52) rfl rfl rfl rfl HST.out ?_)
              | (refine wpList_load_row rfl 36 (.tmp 6) rfl w9.heap.size rfl _ _ _ _ BN2.out Tryz.underlying36 rfl HI.out ?_)
              | go_in)
            refine ⟨⟨_, cnt1, HR2, ⟨fun m hm hl => ?_⟩, HB1⟩, by rw [HR2.out.left_eq]; exact HLE.out⟩
            by_cases e : m = x
            · subst e
              rw [HSU.out, HC0.out]
            · have hne : (XMap.key m).sameKey (XMap.key x) = false := Go.Maps.sameKey_ne (fun e' => e (XMap.key_inj e'))
              rw [hne, Bool.not_false, Bool.and_true] at hl
              exact HZ.out m hm hl
          · rw [decide_eq_false hc0] at heq
            have hz : ¬ XMap.allNone wadd (jsum l1) = true := fun h => by
              have h1 := (XMap.allNone_iff HS.out).1 h x HHA.out
              rw [HSU.out] at h1
              exact hc0 h1
            have HE2 := HE.out
            rw [if_neg hz] at HE2
            subst HE2
            clear hz HE hc0
            go_wp2_with (first
              | (refine XMem.wpList_store rfl (ty := 36) (x := .tmp 6) (y := .tmp 52) rfl rfl rfl rfl HST.out ?_)
              | (refine wpList_load_row rfl 36 (.tmp 6) rfl w9.heap.size rfl _ _ _ _ BN2.out Tryz.underlying36 rfl HI.out ?_)
              | go_in)
            go_ret
            exact ⟨rfl, HB1.out⟩

end Go.Proofs.YtddaogebacigbaaGreatDoor.XA
