-- Written by a program of this session's (wip/xp) out of the translation; given functions by hand.
import Derived.Test.YtddaogebacigbaaGreatDoorXA0
import Derived.Test.YtddaogebacigbaaGreatDoorXA3
namespace Go.Proofs.YtddaogebacigbaaGreatDoor.XA
open Go.RowKit Go.Proofs.YtddaogebacigbaaGreatDoorW.PrintWords Go.Proofs.YtddaogebacigbaaGreatDoorW.PrintLast Go.Proofs.YtddaogebacigbaaGreatDoorW.PrintMore
attribute [local go_sem] max2_int min2_int max_two min_two max_three min_three max_four min_four   -- for this text's walks alone
set_option linter.unusedVariables false
set_option linter.unusedSimpArgs false

/-! ### entry_Journal_Check: function 18 -/
def wadd (a b : Int × Int) : Int × Int := (wide_Add.f a.1 a.2 b.1 b.2).getD (0, 0)
def wof (n : Int) : Int × Int := (wide_Of.f n).getD (0, 0)
theorem wadd_is (a b : Int × Int) : wide_Add.f a.1 a.2 b.1 b.2 = some ((wadd a b).1, (wadd a b).2) := by
  unfold wadd wide_Add.f
  split <;> rfl
theorem wof_is (n : Int) : wide_Of.f n = some ((wof n).1, (wof n).2) := rfl
/-- Of each line its entity, its amount. -/
def jsum (l : List S28) : List (Int × (Int × Int)) := l.map (fun x => (x.f1, wof x.f3))
def badLine (x : S28) : Bool := x.f3 == 0 || x.f3 == -9223372036854775808
theorem lawU16 : Go.Maps.Keyed Tryz.prog 26 := Go.Maps.int_keyed Tryz.underlying26
theorem zeroWide (w : World) : (zeroValue 41).run Tryz.prog w = .ok (.agg #[.int .i64 0, .int .u64 0]) w := by kernel_rfl
set_option maxHeartbeats 8000000 in
set_option maxRecDepth 100000 in
theorem sums.calls (d : Int) (A0 : Option Addr) (c0 : Nat) (l0 : List S28) (w : World) (hr0 : Kd.C k28 w A0 l0.length l0) (hl : l0.length ≤ 1000000000) (hwf : ∀ x ∈ l0, (Lit.int .u16 x.f1).wf = true) :
    Calls Tryz.prog 15 #[.agg #[.int .i32 d, .slice A0 l0.length c0]] w fun e w' => ∃ (b : Nat) (D : XMap.DM), e = .returned (.map (some b)) ∧ w.heap.size ≤ b ∧ w'.ownsMap Tryz.prog 26 XMap.wideR b l0.length D ∧ XMap.SumsOf wadd D (jsum l0) ∧ Below w.heap.size w w' := by
  have hu1 := Tryz.underlying28
  have hu2 := Tryz.underlying41
  have hu3 := Tryz.underlying32
  have HR0 := Aside0.mk hr0
  have HW := Aside0.mk hwf
  clear hr0 hwf
  have HB := Aside0.mk (Below.refl w.heap.size w)
  have hmm := @run_makeMap Tryz.prog
  go_enter Tryz.func15, Tryz.ntmps15
  go_wp2
  go_loopw [10] (fun v10 wr => ∃ (j : Nat) (D : XMap.DM), j ≤ l0.length ∧ v10 = .int .i64 j ∧ Aside0 (wr.ownsMap Tryz.prog 26 XMap.wideR (w.heap.size + 1) j D) ∧ Aside0 (XMap.SumsOf wadd D (jsum (l0.take j))) ∧ Aside0 (Below w.heap.size w wr)) (fun v10 _ => l0.length - (intOf v10).toNat)
  case atStart =>
    refine ⟨0, _, Nat.zero_le _, rfl, ⟨?_⟩, ⟨XMap.SumsOf.empty wadd⟩, ⟨?_⟩⟩
    · have h := World.ownsMap_made (H := Unit) (w.alloc (Obj.cells #[.int .i32 d, .slice A0 l0.length c0] 32)) Tryz.prog 26 XMap.wideR
      have e : (w.alloc (Obj.cells #[.int .i32 d, .slice A0 l0.length c0] 32)).heap.size = w.heap.size + 1 := Array.size_push _
      rw [e] at h
      exact h
    · repeat (first | exact HB.out | apply below_alloc | apply pw_below_drewN | apply below_drew1)
  case round =>
    obtain ⟨j, D, hj, rfl, HM, HS, HB⟩ := hrel
    by_cases hp : j < l0.length
    · have d0 : decide ((j : Int) < (l0.length : Int)) = true := decide_eq_true (by omega)
      obtain ⟨ad, rfl, hc0, hc1, hc2, hc3⟩ := at_T28 (Kd.C_below HR0.out HB.out) (j : Int) (by omega) (by omega)
      rw [Int.toNat_natCast] at hc0 hc1 hc2 hc3
      have hrd : rd_T28 l0 (j : Int) = l0[j] := by
        show l0.getD (j : Int).toNat _ = _
        rw [Int.toNat_natCast, List.getD_eq_getElem?_getD, List.getElem?_eq_getElem hp]
        rfl
      rw [hrd] at hc0 hc1 hc2 hc3
      go_wp2
      have BK := Aside0.mk (blk_new wr (Obj.cells #[.int .u32 l0[j].f0, .int .u16 l0[j].f1, .int .u16 l0[j].f2, .int .i64 l0[j].f3] 28))
      have HM1 := Aside0.mk (HM.out.alloc (Obj.cells #[.int .u32 l0[j].f0, .int .u16 l0[j].f1, .int .u16 l0[j].f2, .int .i64 l0[j].f3] 28))
      have HB1 := Aside0.mk (below_alloc HB.out (Obj.cells #[.int .u32 l0[j].f0, .int .u16 l0[j].f1, .int .u16 l0[j].f2, .int .i64 l0[j].f3] 28))
      obtain ⟨g5, hg5⟩ : ∃ g, g = wr.heap.size := ⟨_, rfl⟩
      have HG5 := Aside0.mk (show w.heap.size ≤ g5 by rw [hg5]; exact below_size HB.out)
      have HN5 := Aside0.mk (show w.heap.size + 1 < g5 by rw [hg5]; exact HM.out.lt)
      rw [← hg5] at BK ⊢
      clear hc0 hc1 hc2 hc3 HM HB hg5
      generalize hw1 : wr.alloc (Obj.cells #[.int .u32 l0[j].f0, .int .u16 l0[j].f1, .int .u16 l0[j].f2, .int .i64 l0[j].f3] 28) = w1 at BK HM1 HB1 ⊢
      clear hw1
      have hf1 : w1.cell? ⟨g5, 1, none⟩ = some (.int .u16 l0[j].f1) := (blk_cell BK.out 1).trans rfl
      have hf3 : w1.cell? ⟨g5, 3, none⟩ = some (.int .i64 l0[j].f3) := (blk_cell BK.out 3).trans rfl
      have HWF : (Lit.int .u16 l0[j].f1).wf = true := HW.out _ (List.getElem_mem hp)
      obtain ⟨c, hc⟩ : ∃ c, c = XMap.sumOf wadd (jsum (l0.take j)) l0[j].f1 := ⟨_, rfl⟩
      have hkey := Go.Maps.keyOf_int_mk Tryz.underlying26 HWF
      have HAT := Aside0.mk (show D.atKey (XMap.key l0[j].f1) (XMap.wideD (0, 0)) = XMap.wideD c by rw [hc]; exact HS.out.look _)
      have HRA := Aside0.mk (show ∀ wx : World, wx.ownsMap Tryz.prog 26 XMap.wideR (w.heap.size + 1) j D → (Instr.lookup 29 (.map (some (w.heap.size + 1))) (.int .u16 l0[j].f1) false).run Tryz.prog wx = .ok (.agg #[.int .i64 c.1, .int .u64 c.2]) wx from fun wx h => XMap.run_lookup h lawU16 Tryz.underlying29 (zeroWide _) hkey HAT.out)
      have HMd := Aside0.mk (HM1.out.drew)
      have BKd := Aside0.mk (show w1.drew.heap[g5]? = _ from BK.out)
      have HBd := Aside0.mk (below_drew HB1.out)
      have hr1 := HRA.out _ HMd.out
      have HLJ := Aside0.mk (show j < maxLen by unfold maxLen; omega)
      have HK := Aside0.mk hkey
      have HC := Aside0.mk hc
      clear hkey hc
      go_region_held3 (fun wx => wx.cell? ⟨g5, 1, none⟩ = some (.int .u16 l0[j].f1) ∧ wx.cell? ⟨g5, 3, none⟩ = some (.int .i64 l0[j].f3)) (first | exact ⟨hf1, hf3⟩ | exact ⟨(blk_cell BK.out 1).trans rfl, (blk_cell BK.out 3).trans rfl⟩ | exact ⟨(blk_cell BK4.out 1).trans rfl, (blk_cell BK4.out 3).trans rfl⟩ | assumption)
        (first
          | (go_at_call 43; (with_reducible refine (wide_Of.calls l0[j].f3 (wof l0[j].f3).1 (wof l0[j].f3).2 _ (wof_is _)).mono ?_); rintro e w2 ⟨rfl, hb2⟩; have n0_ := Aside0.mk (XMap.own_below HMd.out hb2); have n1_ := Aside0.mk (blk_below BKd.out hb2); have n2_ := Aside0.mk (below_step HBd.out hb2); clear HMd BKd HBd HM1 BK HB1 hb2; have HM1 := n0_; have BK := n1_; have HB1 := n2_; clear n0_ n1_ n2_; have hr1 := HRA.out _ HM1.out)
          | (go_at_call 42; (with_reducible refine (wide_Add.calls c.1 c.2 (wof l0[j].f3).1 (wof l0[j].f3).2 (wadd c (wof l0[j].f3)).1 (wadd c (wof l0[j].f3)).2 _ (wadd_is c (wof l0[j].f3))).mono ?_); rintro e w2 ⟨rfl, hb2⟩; have n0_ := Aside0.mk (XMap.own_below (w := _) HM1.out hb2); have n1_ := Aside0.mk (blk_below BK.out hb2); have n2_ := Aside0.mk (below_step HB1.out hb2); clear HM1 BK HB1 hb2; obtain ⟨w4, hup, HM4, HG4⟩ := World.ownsMap.update n0_.out lawU16 Tryz.underlying29 HLJ.out HK.out (XMap.wideR_mk (wadd c (wof l0[j].f3)).1 (wadd c (wof l0[j].f3)).2); have BK := n1_; have BK4 := Aside0.mk (blk_grown n1_.out HG4 (by simp; have := HN5.out; omega)); have HB1 := Aside0.mk (Below.grown n2_.out HG4 (below_size n2_.out) (fun j_ hj_ => by cases hj_; omega)); clear n0_ n1_ n2_))
      all_goals
        go_wp2
        go_roundw
        case rel =>
          refine ⟨j + 1, _, by omega, by go_num, ⟨HM4⟩, ⟨?_⟩, HB1⟩
          rw [show jsum (l0.take (j + 1)) = jsum (l0.take j) ++ [(l0[j].f1, wof l0[j].f3)] by unfold jsum; rw [List.take_succ_eq_append_getElem hp, List.map_append]; rfl]
          have := XMap.SumsOf.step HS.out (l0[j].f1, wof l0[j].f3)
          rw [← HC.out] at this
          exact this
        case measure => simp [intOf]; omega
    · have d0 : decide ((j : Int) < (l0.length : Int)) = false := decide_eq_false (by omega)
      obtain rfl : j = l0.length := by omega
      go_wp2
      go_ret
      rw [List.take_length] at HS
      exact ⟨_, D, rfl, by omega, HM.out, HS.out, HB.out⟩
def entry_Journal_Check.f (k : Nat) (d : Int) (l : List S28) : Option Int :=
  (day_Day_Text.f k d).bind fun t => if l.all (fun x => (Lit.int .u16 x.f1).wf) = true then some (if t.toList = ([] : List UInt8) then 13 else if l.length < 1 then 2 else if l.length > 60 then 2 else if l.any badLine = true then 5 else if XMap.allNone wadd (jsum l) = true then 0 else 14) else none
theorem entry_Journal_Check.mono : ∀ a0 a1 k, LeO (entry_Journal_Check.f k a0 a1) (entry_Journal_Check.f (k + 1) a0 a1) := by
  intro a0 a1 k
  unfold entry_Journal_Check.f
  exact LeO.bind (day_Day_Text.mono _ _) (fun _ => LeO.refl _)
set_option maxHeartbeats 8000000 in
set_option maxRecDepth 100000 in
theorem entry_Journal_Check.calls (k : Nat) (a0 : Int) (A1 : Option Addr) (c1 : Nat) (l1 : List S28) (r : Int) (w : World) (hr1 : Kd.C k28 w A1 l1.length l1) (hc1 : l1.length ≤ c1) (hG : Glob w) (h : entry_Journal_Check.f k a0 l1 = some r) :
    Calls Tryz.prog 18 #[.agg #[.int .i32 a0, .slice A1 l1.length c1]] w fun e w' => e = .returned (.int .i64 r) ∧ Below w.heap.size w w' := by
  have hu1 := Tryz.underlying28
  have hu2 := Tryz.underlying41
  have hu3 := Tryz.underlying32
  have HG := Aside0.mk hG
  have HR1 := Aside0.mk hr1
  clear hG hr1
  have HB := Aside0.mk (Below.refl w.heap.size w)
  unfold entry_Journal_Check.f at h
  obtain ⟨t, A10, H⟩ := Option.bind_eq_some_iff.mp h
  have A1_ := Aside0.mk A10
  clear A10 h
  by_cases hwf : l1.all (fun x => (Lit.int .u16 x.f1).wf) = true
  case neg => rw [if_neg hwf] at H; cases H
  rw [if_pos hwf] at H
  have HW := Aside0.mk (show ∀ x ∈ l1, (Lit.int .u16 x.f1).wf = true from List.all_eq_true.mp hwf)
  replace H := Option.some.inj H
  clear hwf
  have HE := Aside0.mk H
  clear H
  go_enter Tryz.func18, Tryz.ntmps18
  by_cases c22 : t.toList = ([] : List UInt8)
  · have c22b0 : (t.toList == ([] : List UInt8)) = true := beq_iff_eq.mpr c22
    have HE2 := HE.out
    rw [if_pos c22] at HE2
    subst HE2
    clear c22 HE
    go_wp2_with (go_at_call 46; (with_reducible refine (day_Day_Text.calls k a0 t _ ?side1 A1_.out).mono ?_); (case side1 => exact Glob.below (by repeat (first | exact HB.out | apply below_alloc)) HG.out); rintro e w1 ⟨rfl, hb⟩; have n0_ := Aside0.mk (below_step (by repeat (first | exact HB.out | apply below_alloc)) hb); clear HB; have HB := n0_; clear n0_ hb)
    go_ret
    exact ⟨rfl, HB.out⟩
  have c22b0 : (t.toList == ([] : List UInt8)) = false := beq_eq_false_iff_ne.mpr c22
  have HE1 := HE.out
  rw [if_neg c22] at HE1
  clear HE c22
  have HE := Aside0.mk HE1
  clear HE1
  by_cases c1' : l1.length < 1
  · have d1 : decide ((l1.length : Int) < 1) = true := decide_eq_true (by omega)
    have HE2 := HE.out
    rw [if_pos c1'] at HE2
    subst HE2
    clear HE
    go_wp2_with (go_at_call 46; (with_reducible refine (day_Day_Text.calls k a0 t _ ?side1 A1_.out).mono ?_); (case side1 => exact Glob.below (by repeat (first | exact HB.out | apply below_alloc)) HG.out); rintro e w1 ⟨rfl, hb⟩; have hz1 : w1.cell? ⟨w.heap.size, 1, none⟩ = some (.slice A1 l1.length c1) := (blk_cell (blk_below (blk_new w _) hb) 1).trans rfl; have n0_ := Aside0.mk (below_step (by repeat (first | exact HB.out | apply below_alloc)) hb); clear HB; have HB := n0_; clear n0_ hb)
    go_ret
    exact ⟨rfl, HB.out⟩
  have d1 : decide ((l1.length : Int) < 1) = false := decide_eq_false (by omega)
  have HE1 := HE.out
  rw [if_neg c1'] at HE1
  clear HE
  have HE := Aside0.mk HE1
  clear HE1
  by_cases c2' : l1.length > 60
  · have d2 : decide ((l1.length : Int) > 60) = true := decide_eq_true (by omega)
    have d3 : decide (60 < l1.length) = true := decide_eq_true (by omega)
    have HE2 := HE.out
    rw [if_pos c2'] at HE2
    subst HE2
    clear HE
    go_wp2_with (go_at_call 46; (with_reducible refine (day_Day_Text.calls k a0 t _ ?side1 A1_.out).mono ?_); (case side1 => exact Glob.below (by repeat (first | exact HB.out | apply below_alloc)) HG.out); rintro e w1 ⟨rfl, hb⟩; have BK := Aside0.mk (blk_below (blk_new w _) hb); have hz0 : w1.cell? ⟨w.heap.size, 0, none⟩ = some (.int .i32 a0) := (blk_cell BK.out 0).trans rfl; have hz1 : w1.cell? ⟨w.heap.size, 1, none⟩ = some (.slice A1 l1.length c1) := (blk_cell BK.out 1).trans rfl; have n0_ := Aside0.mk (below_step (by repeat (first | exact HB.out | apply below_alloc)) hb); clear HB; have HB := n0_; clear n0_ hb)
    go_ret
    exact ⟨rfl, HB.out⟩
  have d2 : decide ((l1.length : Int) > 60) = false := decide_eq_false (by omega)
  have d3 : decide (60 < l1.length) = false := decide_eq_false (by omega)
  have HE1 := HE.out
  rw [if_neg c2'] at HE1
  clear HE
  have HE := Aside0.mk HE1
  clear HE1
  go_wp2_with (go_at_call 46; (with_reducible refine (day_Day_Text.calls k a0 t _ ?side1 A1_.out).mono ?_); (case side1 => exact Glob.below (by repeat (first | exact HB.out | apply below_alloc)) HG.out); rintro e w1 ⟨rfl, hb⟩; have BK := Aside0.mk (blk_below (blk_new w _) hb); have hz0 : w1.cell? ⟨w.heap.size, 0, none⟩ = some (.int .i32 a0) := (blk_cell BK.out 0).trans rfl; have hz1 : w1.cell? ⟨w.heap.size, 1, none⟩ = some (.slice A1 l1.length c1) := (blk_cell BK.out 1).trans rfl; have n0_ := Aside0.mk (below_step (by repeat (first | exact HB.out | apply below_alloc)) hb); clear HB; have HB := n0_; clear n0_ hb)
  clear hz0 hz1
  go_loopw [24] (fun v24 wr => ∃ j : Nat, j ≤ l1.length ∧ v24 = .int .i64 j ∧ Aside0 (∀ i (h : i < l1.length), i < j → badLine l1[i] = false) ∧ Aside0 (wr.heap[w.heap.size]? = some (.cells #[.int .i32 a0, .slice A1 l1.length c1] 32 (0, 0))) ∧ Aside0 (Below w.heap.size w wr)) (fun v24 _ => l1.length - (intOf v24).toNat)
  case atStart => exact ⟨0, Nat.zero_le _, rfl, ⟨fun i _ h => absurd h (Nat.not_lt_zero _)⟩, BK, HB⟩
  case round =>
    clear HB BK
    obtain ⟨j, hj, rfl, HN, BK, HB⟩ := hrel
    by_cases hp : j < l1.length
    · have d0 : decide ((j : Int) < (l1.length : Int)) = true := decide_eq_true (by omega)
      obtain ⟨ad, rfl, hc0, hc1, hc2, hc3⟩ := at_T28 (Kd.C_below HR1.out HB.out) (j : Int) (by omega) (by omega)
      rw [Int.toNat_natCast] at hc0 hc1 hc2 hc3
      have hrd : rd_T28 l1 (j : Int) = l1[j] := by
        show l1.getD (j : Int).toNat _ = _
        rw [Int.toNat_natCast, List.getD_eq_getElem?_getD, List.getElem?_eq_getElem hp]
        rfl
      rw [hrd] at hc0 hc1 hc2 hc3
      clear hrd
      by_cases hb0 : badLine l1[j] = true
      · have HE2 := HE.out
        rw [if_pos (List.any_eq_true.mpr ⟨_, List.getElem_mem hp, hb0⟩)] at HE2
        subst HE2
        clear HE
        by_cases h0 : l1[j].f3 = 0
        · have e0 : (l1[j].f3 == 0) = true := beq_iff_eq.mpr h0
          rw [h0] at hc3
          clear h0
          go_wp2
          go_ret
          exact ⟨rfl, by repeat (first | exact HB.out | apply below_alloc)⟩
        · have h1 : l1[j].f3 = -9223372036854775808 := by
            unfold badLine at hb0
            rw [Bool.or_eq_true, beq_iff_eq, beq_iff_eq] at hb0
            exact hb0.resolve_left h0
          rw [h1] at hc3
          clear h0 h1
          go_wp2
          go_ret
          exact ⟨rfl, by repeat (first | exact HB.out | apply below_alloc)⟩
      · have hb1 : badLine l1[j] = false := (Bool.not_eq_true _).mp hb0
        have hb2 := hb1
        unfold badLine at hb2
        rw [Bool.or_eq_false_iff] at hb2
        have e0 := hb2.1
        have e1 := hb2.2
        clear hb0 hb2
        go_wp2
        go_roundw
        case rel =>
          refine ⟨j + 1, by omega, by go_num, ⟨fun i h hlt => ?_⟩, ⟨?_⟩, ⟨by repeat (first | exact HB.out | apply below_alloc)⟩⟩
          · rcases Nat.lt_or_ge i j with h2 | h2
            · exact HN.out i h h2
            · obtain rfl : i = j := by omega
              exact hb1
          · exact (World.grownBy_alloc _ _ none).block _ (blk_lt BK.out) (by simp) |>.trans BK.out
        case measure => simp [intOf]; omega
    · have d0 : decide ((j : Int) < (l1.length : Int)) = false := decide_eq_false (by omega)
      obtain rfl : j = l1.length := by omega
      have hany : l1.any badLine = false := by
        rw [List.any_eq_false]
        intro x hx
        obtain ⟨i, hi, rfl⟩ := List.getElem_of_mem hx
        rw [HN.out i hi hi]
        simp
      have HE1 := HE.out
      rw [if_neg (by rw [hany]; exact Bool.false_ne_true)] at HE1
      clear HE HN
      have HE := Aside0.mk HE1
      clear HE1 hany
      have hz0 : wr.cell? ⟨w.heap.size, 0, none⟩ = some (.int .i32 a0) := (blk_cell BK.out 0).trans rfl
      have hz1 : wr.cell? ⟨w.heap.size, 1, none⟩ = some (.slice A1 l1.length c1) := (blk_cell BK.out 1).trans rfl
      have HL := Aside0.mk (show l1.length ≤ 1000000000 by omega)
      go_wp2_with (first
        | (go_at_call 15; (with_reducible refine (sums.calls a0 A1 c1 l1 _ (Kd.C_below HR1.out HB.out) HL.out HW.out).mono ?_); rintro e w2 ⟨b, D, rfl, hb1, hm, hs, hbl⟩; have HM := Aside0.mk hm; have HS := Aside0.mk hs; have n0_ := Aside0.mk (below_step HB.out hbl); have HBG := Aside0.mk (show w.heap.size ≤ b from Nat.le_trans (below_size HB.out) hb1); clear HB hm hs hbl hb1; have HB := n0_; clear n0_)
        | (at_range; refine wpList_range_own _ rfl _ 29 rfl 26 41 lawU16 Tryz.underlying29 XMap.wideR b l1.length D rfl HM.out ?_; intro w3 hrg0 hg0 hs0; have HR0 := Aside0.mk hrg0; have n0_ := Aside0.mk (Below.grown HB.out hg0 (below_size HB.out) (fun j_ hj_ => by cases hj_)); have HRG := Aside0.mk (show w.heap.size ≤ w2.heap.size from below_size HB.out); clear HB hrg0 hg0 hs0; have HB := n0_; clear n0_)
        | go_in)
      go_frame
      generalize w2.heap.size = rr at HR0 HRG ⊢
      go_loopw [40] (fun _ wr => ∃ (left : Lit → Bool) (cnt : Nat), Aside0 (wr.ranges Tryz.prog 26 XMap.wideR b rr l1.length D left cnt) ∧ Aside0 (∀ m, Go.Maps.has D (XMap.key m) = true → left (XMap.key m) = false → XMap.sumOf wadd (jsum l1) m = (0, 0)) ∧ Aside0 (Below w.heap.size w wr)) (fun _ wr => wr.rangeLeft b rr)
      case atStart => exact ⟨_, _, HR0, ⟨fun m h h' => absurd (h.symm.trans h') (by decide)⟩, HB⟩
      case round =>
        clear HB
        obtain ⟨left, cnt, HRr, HZ, HB⟩ := hrel
        go_wp2_with (first
          | (at_next; refine XMap.wpList_next_wide rfl _ rfl 26 lawU16 Tryz.underlying26 b rr l1.length D left cnt rfl HRr.out ?_ ?_)
          | go_in)
        · intro hl0
          have hz : XMap.allNone wadd (jsum l1) = true := (XMap.allNone_iff HS.out).2 (fun n hn => HZ.out n hn (hl0.is _))
          have HE2 := HE.out
          rw [if_pos hz] at HE2
          subst HE2
          clear hz HE
          go_wp2
          go_ret
          exact ⟨rfl, HB.out⟩
        · intro x q1 q2 w5 cnt1 hcame hen
          have CM := Aside0.mk hcame
          have HSU := Aside0.mk (show XMap.sumOf wadd (jsum l1) x = (q1, q2) from XMap.wideD_inj ((HS.out.look x).symm.trans (CM.out.at_ _)))
          have HHA := Aside0.mk (show Go.Maps.has D (XMap.key x) = true from Go.Maps.has_true_of_atKey CM.out.at_)
          have HB1 := Aside0.mk (Below.grown HB.out CM.out.grown (below_size HB.out) (fun j_ hj_ => by cases hj_; exact HRG.out))
          clear hcame HB
          by_cases hc0 : q1 = 0 ∧ q2 = 0
          · obtain ⟨rfl, rfl⟩ := hc0
            go_wp2
            constructor
            · refine ⟨_, cnt1, ⟨CM.out.ranges.alloc _⟩, ⟨fun m hm hl => ?_⟩, ⟨below_alloc HB1.out _⟩⟩
              by_cases e : m = x
              · subst e
                exact HSU.out
              · have hne : (XMap.key m).sameKey (XMap.key x) = false := Go.Maps.sameKey_ne (fun e' => e (XMap.key_inj e'))
                rw [hne, Bool.not_false, Bool.and_true] at hl
                exact HZ.out m hm hl
            · rw [(CM.out.ranges.alloc _).left_eq, HRr.out.left_eq]
              exact CM.out.less
          · have hz : ¬ XMap.allNone wadd (jsum l1) = true := fun h => by
              have h1 := (XMap.allNone_iff HS.out).1 h x HHA.out
              rw [HSU.out, Prod.mk.injEq] at h1
              exact hc0 h1
            have HE2 := HE.out
            rw [if_neg hz] at HE2
            subst HE2
            clear hz HE
            by_cases hq1 : q1 = 0
            · subst hq1
              have hq2 : (q2 == 0) = false := beq_eq_false_iff_ne.mpr (fun h => hc0 ⟨rfl, h⟩)
              clear hc0
              go_wp2
              go_ret
              exact ⟨rfl, by repeat (first | exact HB1.out | apply below_alloc)⟩
            · have hq2 : (q1 == 0) = false := beq_eq_false_iff_ne.mpr hq1
              clear hc0 hq1
              go_wp2
              go_ret
              exact ⟨rfl, by repeat (first | exact HB1.out | apply below_alloc)⟩

/-! ### transposallaw08_Make: function 51 -/
def transposallaw08_Make.l0 : Nat → Int → List Int → Int → Int → List Int → Int → Option (List Int × Int)
 | 0, _, _, _, _, _, _ => none
 | k + 1, x5, x14, x15, x16, x125000, x125001 => if x16 < x15 then (if 0 ≤ x16 then (if x16 < (x14.length : Int) then (if x16 = 12 then (some (x125000, wrap32 (x5 + 31))) else (if x125000.length < 35184372088832 then (transposallaw08_Make.l0 k (wrap32 (x5 + (wrap32 (1 + (wrap32 (Int.tmod (rd x14 x16) 40)))))) x14 x15 (wrap64 (x16 + 1)) (x125000 ++ [wrap32 (x5 + (wrap32 (1 + (wrap32 (Int.tmod (rd x14 x16) 40)))))]) x125001) else (none))) else (none)) else (none)) else (some (x125000, wrap32 (x5 + 31)))
def transposallaw08_Make.f (k : Nat) (a0 : Int) (l1 : List Int) : Option (List Int × Int) := transposallaw08_Make.l0 k (wrap32 (a0)) l1 (l1.length : Int) 0 (([wrap32 (a0)] : List Int)) 0
theorem transposallaw08_Make.mono_l : ∀ k, (∀ y0 y1 y2 y3 y4 y5, LeO (transposallaw08_Make.l0 k y0 y1 y2 y3 y4 y5) (transposallaw08_Make.l0 (k + 1) y0 y1 y2 y3 y4 y5))
 | 0 => fun _ _ _ _ _ _ r h => by simp [transposallaw08_Make.l0] at h
 | k + 1 => by
  have ih0 := transposallaw08_Make.mono_l k
  ·intro y0 y1 y2 y3 y4 y5
   unfold transposallaw08_Make.l0
   repeat' first
   | (with_reducible exact ih0 _ _ _ _ _ _)
   | (with_reducible exact LeO.refl _)
   | (with_reducible exact LeO.none _)
   | (with_reducible refine LeO.ite ?_ ?_)
   | (with_reducible refine LeO.bind ?_ (fun _ => ?_))
   | exact ih0 _ _ _ _ _ _
   | exact LeO.none _
   | refine LeO.ite ?_ ?_
   | refine LeO.bind ?_ (fun _ => ?_)
theorem transposallaw08_Make.mono : ∀ a0 a1 k, LeO (transposallaw08_Make.f k a0 a1) (transposallaw08_Make.f (k + 1) a0 a1) := by
 intro a0 a1 k
 have ih0 := transposallaw08_Make.mono_l k
 unfold transposallaw08_Make.f
 repeat' first
   | (with_reducible exact ih0 _ _ _ _ _ _)
   | (with_reducible exact LeO.refl _)
   | (with_reducible exact LeO.none _)
   | (with_reducible refine LeO.ite ?_ ?_)
   | (with_reducible refine LeO.bind ?_ (fun _ => ?_))
   | exact ih0 _ _ _ _ _ _
   | exact LeO.none _
   | refine LeO.ite ?_ ?_
   | refine LeO.bind ?_ (fun _ => ?_)
set_option maxHeartbeats 8000000 in
set_option maxRecDepth 100000 in
theorem transposallaw08_Make.calls (k : Nat) (a0 : Int) (A1 : Option Addr) (c1 : Nat) (l1 : List Int) (r1 : List Int) (r2 : Int) (w : World) (hr1 : Kd.C (Kd.int .u8) w A1 l1.length l1) (hc1 : l1.length ≤ c1) (h : transposallaw08_Make.f k a0 l1 = some (r1, r2)) :
  Calls Tryz.prog 51 #[.int .i16 a0, .slice A1 l1.length c1] w fun e w' => ∃ v0_ : Value, e = .returned (.agg #[v0_, .int .i32 r2]) ∧ Kd.R (Kd.int .i32) 30 w' w.heap.size (fun _ => True) v0_ r1 ∧ Below w.heap.size w w' := by
 have hu65 := Tryz.underlying65
 have HR1 := Aside0.mk hr1
 have HC1 := Aside0.mk hc1
 clear hr1 hc1
 have HB := Aside0.mk (Below.refl w.heap.size w)
 have H : (transposallaw08_Make.l0 k (wrap32 (a0)) l1 (l1.length : Int) 0 (([wrap32 (a0)] : List Int)) 0) = some (r1, r2) := h
 clear h
 obtain ⟨y121, hy121⟩ : ∃ y_ : List Int, y_ = (([wrap32 (a0)] : List Int)) := ⟨_, rfl⟩
 replace H : (transposallaw08_Make.l0 k (wrap32 (a0)) l1 (l1.length : Int) 0 y121 0) = some (r1, r2) := by first | (rw [hy121]; with_reducible exact H) | (have H2_ := (Option.bind_some _ _).symm.trans H; rw [hy121]; with_reducible exact H2_) | (have H2_ := (Option.bind_some _ _).symm.trans H; with_reducible exact H2_) | with_reducible exact H | (rw [hy121]; exact H) | exact H
 have Ny121 := Aside0.mk hy121
 clear hy121
 have H' := Aside0.mk H
 clear H
 go_enter Tryz.func51, Tryz.ntmps51
 go_wp2_with (first | ((with_reducible refine gate_dst (N := 4) rfl ?_); refine box_event ?hg (N := 4) ?hd (cs := #[.slice none 0 0, .int .i32 0]) (t := 65) ?hr ?_; (case hd => rfl); (case hg => rfl); (case hr => first | (go_simp; done) | (go_simp; rfl)); intro gb120 hg w3 hbox hb; have n0_ := Aside0.mk (below_step (by repeat (first | (with_reducible first | exact HB.out | apply below_alloc | apply pw_below_drewN | apply below_drew1) | exact HB.out)) hb); have n1_ := Aside0.mk (hbox); have n2_ := Aside0.mk ((by rw [hg]; exact (below_size (by repeat (first | (with_reducible first | exact HB.out | apply below_alloc | apply pw_below_drewN | apply below_drew1) | exact HB.out))) : w.heap.size ≤ gb120)); have n3_ := Aside0.mk ((by rw [hg]; exact (below_size (by repeat (first | (with_reducible first | exact HB.out | apply below_alloc | apply pw_below_drewN | apply below_drew1) | exact HB.out))) : w.heap.size ≤ gb120)); clear HB; have HB := n0_; have BK120 := n1_; have GW120 := n2_; have GE120 := n3_; clear n0_ n1_ n2_ n3_; clear hb hbox hg) | ((with_reducible refine gate_dst (N := 12) rfl ?_); refine Kd.R_lit (Kd.int .i32) _ 30 ?hg (N := 12) ?hd (xs := ([wrap32 (a0)] : List Int)) (inner := [.int .i32 (wrap32 (a0))]) (ok := fun _ => True) (okp := fun _ => True) ?hr ?hp (fun _ hk => hk) trivial (Below.refl _ _) (Nat.le_refl _) (by simp) ?_; (case hd => rfl); (case hg => rfl); (case hr => first | (go_simp; done) | (go_simp; rfl)); (case hp => exact (Reps.one (show Kd.M (Kd.int .i32) _ _ _ (wrap32 (a0)) [.int .i32 (wrap32 (a0))] from rfl) (Reps.none _ _))); intro v122 w4 ho5 hb hg_ hnew_; clear hg_ hnew_; (first | rw [← Ny121.out] at ho5 | (simp only [Int.reduceToNat] at ho5; rw [← Ny121.out] at ho5)); have n0_ := Aside0.mk (Kd.R_lower ho5 (below_size (by repeat (first | (with_reducible first | exact HB.out | apply below_alloc | apply pw_below_drewN | apply below_drew1 | refine below_set ?_ GE120.out) | exact HB.out)))); have n1_ := Aside0.mk (blk_below (g := gb120) (o := .cells #[.slice none 0 0, .int .i32 0] 65 (0, 0)) (by (with_reducible repeat (first | refine blk_drewN ?_ _ | refine blk_drew ?_ | refine blk_alloc ?_ _)); exact BK120.out) hb); have n2_ := Aside0.mk (below_step (by repeat (first | (with_reducible first | exact HB.out | apply below_alloc | apply pw_below_drewN | apply below_drew1 | refine below_set ?_ GE120.out) | exact HB.out)) hb); clear BK120; clear HB; have HO123 := n0_; have BK120 := n1_; have HB := n2_; clear n0_ n1_ n2_; clear hb ho5; obtain ⟨Ao6, co6, eo6⟩ := Kd.R_slice HO123.out; subst eo6) | ((with_reducible refine gate_dst (N := 6) rfl ?_); refine box_event ?hg (N := 6) ?hd (cs := #[.slice none 0 0, .int .i32 0]) (t := 65) ?hr ?_; (case hd => rfl); (case hg => rfl); (case hr => first | (go_simp; done) | (go_simp; rfl)); intro gb124 hg w7 hbox hb; have n0_ := Aside0.mk (Kd.R_below (by (with_reducible repeat (first | apply Kd.R_alloc | apply Kd.R_drewN | apply Kd.R_drew)); exact HO123.out) hb); have n1_ := Aside0.mk (blk_below (g := gb120) (o := .cells #[.slice none 0 0, .int .i32 0] 65 (0, 0)) (by (with_reducible repeat (first | refine blk_drewN ?_ _ | refine blk_drew ?_ | refine blk_alloc ?_ _)); exact BK120.out) hb); have n2_ := Aside0.mk (below_step (by repeat (first | (with_reducible first | exact HB.out | apply below_alloc | apply pw_below_drewN | apply below_drew1 | refine below_set ?_ GE120.out) | exact HB.out)) hb); have n3_ := Aside0.mk (hbox); have n4_ := Aside0.mk ((by rw [hg]; exact (below_size (by repeat (first | (with_reducible first | exact HB.out | apply below_alloc | apply pw_below_drewN | apply below_drew1 | refine below_set ?_ GE120.out) | exact HB.out))) : w.heap.size ≤ gb124)); have n5_ := Aside0.mk ((by rw [hg]; exact (below_size (by repeat (first | (with_reducible first | exact HB.out | apply below_alloc | apply pw_below_drewN | apply below_drew1 | refine below_set ?_ GE120.out) | exact HB.out))) : w.heap.size ≤ gb124)); have n6_ := Aside0.mk ((by rw [hg]; exact Nat.ne_of_lt (blk_lt (g := gb120) (o := .cells #[.slice none 0 0, .int .i32 0] 65 (0, 0)) (by (with_reducible repeat (first | refine blk_drewN ?_ _ | refine blk_drew ?_ | refine blk_alloc ?_ _)); exact BK120.out)) : gb120 ≠ gb124)); have n7_ := Aside0.mk ((by rw [hg]; exact Nat.ne_of_gt (blk_lt (g := gb120) (o := .cells #[.slice none 0 0, .int .i32 0] 65 (0, 0)) (by (with_reducible repeat (first | refine blk_drewN ?_ _ | refine blk_drew ?_ | refine blk_alloc ?_ _)); exact BK120.out)) : gb124 ≠ gb120)); clear HO123; clear BK120; clear HB; have HO123 := n0_; have BK120 := n1_; have HB := n2_; have BK124 := n3_; have GW124 := n4_; have GE124 := n5_; have NB120_124 := n6_; have NB124_120 := n7_; clear n0_ n1_ n2_ n3_ n4_ n5_ n6_ n7_; clear hb hbox hg; have hnb8 := NB124_120.out; have hnc8 := NB120_124.out; have hcz9_0 : w7.cell? ⟨gb124, 0, none⟩ = some (.slice none 0 0) := (blk_cell BK124.out 0).trans rfl; have hcz9_1 : w7.cell? ⟨gb124, 1, none⟩ = some (.int .i32 0) := (blk_cell BK124.out 1).trans rfl; have hfz9_0 := blk_frozen BK124.out 0; have hfz9_1 := blk_frozen BK124.out 1))
 go_loopg [5, 16] k (fun kq v5 v16 w' => ∃ (x5_1 : Int) (x16_1 : Int) (x125000_1 : List Int) (u125000 : Value), v5 = .int .i32 x5_1 ∧ v16 = .int .i64 x16_1 ∧ Aside0 (transposallaw08_Make.l0 kq x5_1 l1 (l1.length : Int) x16_1 x125000_1 0 = some (r1, r2)) ∧ Aside0 (kq ≤ k) ∧ Aside0 (Kd.R (Kd.int .i32) 30 w' w.heap.size (fun _ => True) u125000 x125000_1) ∧ Aside0 (w'.heap[gb120]? = some (.cells #[(.slice none 0 0), .int .i32 0] 65 (0, 0))) ∧ Aside0 (w'.heap[gb124]? = some (.cells #[u125000, .int .i32 0] 65 (0, 0))) ∧ Aside0 (Below w.heap.size w w'))
 case atStart => exact ⟨(wrap32 (a0)), (0), (y121), (.slice Ao6 y121.length co6), (by first | rfl | (simp; done) | (simp [*]; done)), (by first | rfl | (simp; done) | (simp [*]; done)), H', ⟨Nat.le_refl _⟩, ⟨by (with_reducible repeat (first | apply Kd.R_alloc | apply Kd.R_drewN | apply Kd.R_drew)); exact Kd.R_mono (Kd.R_far (p := ⟨gb124, 1, none⟩) (Kd.R_far (p := ⟨gb124, 0, none⟩) (Kd.R_types HO123.out BK124.out (by decide)) (fun _ hk => hk.2) (.slice Ao6 y121.length co6)) (fun _ hk => hk.2) (.int .i32 0)) (fun _ hk => trivial)⟩, ⟨by (with_reducible repeat (first | refine blk_drewN ?_ _ | refine blk_drew ?_ | refine blk_alloc ?_ _)); refine blk_far ?_ NB120_124.out _; (with_reducible repeat (first | refine blk_drewN ?_ _ | refine blk_drew ?_ | refine blk_alloc ?_ _)); refine blk_far ?_ NB120_124.out _; (with_reducible repeat (first | refine blk_drewN ?_ _ | refine blk_drew ?_ | refine blk_alloc ?_ _)); exact BK120.out⟩, ⟨by (with_reducible repeat (first | refine blk_drewN ?_ _ | refine blk_drew ?_ | refine blk_alloc ?_ _)); refine blk_put (cs := #[.slice Ao6 y121.length co6, .int .i32 0]) ?_ 1 _ rfl; (with_reducible repeat (first | refine blk_drewN ?_ _ | refine blk_drew ?_ | refine blk_alloc ?_ _)); refine blk_put (cs := #[.slice none 0 0, .int .i32 0]) ?_ 0 _ rfl; (with_reducible repeat (first | refine blk_drewN ?_ _ | refine blk_drew ?_ | refine blk_alloc ?_ _)); exact BK124.out⟩, ⟨by repeat (first | (with_reducible first | exact HB.out | apply below_alloc | apply pw_below_drewN | apply below_drew1 | refine below_set ?_ GE120.out | refine below_set ?_ GE124.out) | exact HB.out)⟩⟩
 case round =>
  clear H'
  try clear c1
  try clear p2
  try clear p3
  try clear c5
  try clear c8
  try clear hcz9_0
  try clear hcz9_1
  try clear hfz9_0
  try clear hfz9_1
  obtain ⟨x5_1, x16_1, x125000_1, u125000, rfl, rfl, HA, HK1, HO_125000, BK120, BK124, HB⟩ := hrel
  cases gk with
  | zero => exact absurd HA.out (by simp [transposallaw08_Make.l0])
  | succ k1 =>
   have H := HA.out
   clear HA
   simp only [transposallaw08_Make.l0] at H
   by_cases c10 : x16_1 < (l1.length : Int)
   ·rw [if_pos c10] at H
    have c10b0 : decide (x16_1 < (l1.length : Int)) = true := decide_eq_true c10
    clear c10
    by_cases c11 : 0 ≤ x16_1
    ·rw [if_pos c11] at H
     have c11b0 : decide (0 ≤ x16_1) = true := decide_eq_true c11
     clear c11
     by_cases c12 : x16_1 < (l1.length : Int)
     ·rw [if_pos c12] at H
      have c12b0 : decide (x16_1 < (l1.length : Int)) = true := decide_eq_true c12
      clear c12
      by_cases c13 : x16_1 = 12
      ·rw [if_pos c13] at H
       have c13b0 : (x16_1 == 12) = true := beq_iff_eq.mpr c13
       have c13b1 : (x16_1 != 12) = false := bne_eq_false_iff_eq.mpr c13
       clear c13
       simp only [Option.some.injEq, Prod.mk.injEq] at H
       obtain ⟨rfl, rfl⟩ := H
       have p125 : 0 ≤ (x16_1 : Int) := of_decide_eq_true (by first | (with_reducible assumption) | assumption)
       have q125 : x16_1 < (l1.length : Int) := of_decide_eq_true (by first | (with_reducible assumption) | assumption)
       obtain ⟨ad125, e125, hx125_0⟩ := Kd.at_int HR1.out x16_1 p125 q125
       cases e125
       replace hx125_0 := (HB.out.cell (World.block_lt_of_cell? w _ hx125_0)).trans hx125_0
       replace p125 := eq_true p125
       replace q125 := eq_true q125
       have hnb14 := NB124_120.out
       have hnc14 := NB120_124.out
       have hcz15_0 : wr.cell? ⟨gb124, 0, none⟩ = some (u125000) := (blk_cell BK124.out 0).trans rfl
       have hcz15_1 : wr.cell? ⟨gb124, 1, none⟩ = some (.int .i32 0) := (blk_cell BK124.out 1).trans rfl
       have hfz15_0 := blk_frozen BK124.out 0
       have hfz15_1 := blk_frozen BK124.out 1
       obtain ⟨Ao16, co16, eo16⟩ := Kd.R_slice HO_125000.out
       subst eo16
       have hcz17_0 : wr.cell? ⟨gb120, 0, none⟩ = some (.slice none 0 0) := (blk_cell BK120.out 0).trans rfl
       have hcz17_1 : wr.cell? ⟨gb120, 1, none⟩ = some (.int .i32 0) := (blk_cell BK120.out 1).trans rfl
       have hfz17_0 := blk_frozen BK120.out 0
       have hfz17_1 := blk_frozen BK120.out 1
       go_wp2
       refine bodyPost_ret (results_cell_row rfl _ _ gb120 65 #[.slice Ao16 x125000_1.length co16, .int .i32 (wrap32 (x5_1 + 31))] (0, 0) _ rfl (by (with_reducible repeat (first | refine blk_drewN ?_ _ | refine blk_drew ?_ | refine blk_alloc ?_ _)); refine blk_put (cs := #[.slice Ao16 x125000_1.length co16, .int .i32 0]) ?_ 1 _ rfl; (with_reducible repeat (first | refine blk_drewN ?_ _ | refine blk_drew ?_ | refine blk_alloc ?_ _)); refine blk_put (cs := #[.slice none 0 0, .int .i32 0]) ?_ 0 _ rfl; (with_reducible repeat (first | refine blk_drewN ?_ _ | refine blk_drew ?_ | refine blk_alloc ?_ _)); refine blk_far ?_ NB120_124.out _; (with_reducible repeat (first | refine blk_drewN ?_ _ | refine blk_drew ?_ | refine blk_alloc ?_ _)); exact BK120.out) Tryz.underlying65 rfl (by kernel_rfl)) rfl ?_
       exact ⟨_, by first | rfl | (simp [errW_none, errW_some] <;> rfl) | (simp [*, errW_none, errW_some] <;> rfl), by (with_reducible repeat (first | apply Kd.R_alloc | apply Kd.R_drewN | apply Kd.R_drew)); exact Kd.R_mono (Kd.R_far (p := ⟨gb120, 1, none⟩) (Kd.R_far (p := ⟨gb120, 0, none⟩) (Kd.R_far (p := ⟨gb124, 1, none⟩) (Kd.R_types (Kd.R_types HO_125000.out BK124.out (by decide)) BK120.out (by decide)) (fun _ hk => hk.1.2) (.int .i32 (wrap32 (x5_1 + 31)))) (fun _ hk => hk.2) (.slice Ao16 x125000_1.length co16)) (fun _ hk => hk.2) (.int .i32 (wrap32 (x5_1 + 31)))) (fun _ hk => trivial), by repeat (first | (with_reducible first | exact HB.out | apply below_alloc | apply pw_below_drewN | apply below_drew1 | refine below_set ?_ GE120.out | refine below_set ?_ GE124.out) | exact HB.out)⟩
      ·rw [if_neg c13] at H
       have c13b0 : (x16_1 == 12) = false := beq_eq_false_iff_ne.mpr c13
       have c13b1 : (x16_1 != 12) = true := bne_iff_ne.mpr c13
       by_cases c18 : x125000_1.length < 35184372088832
       ·rw [if_pos c18] at H
        have LMc18 := Aside0.mk c18
        clear c18
        obtain ⟨y126, hy126⟩ : ∃ y_ : List Int, y_ = (x125000_1 ++ [wrap32 (x5_1 + (wrap32 (1 + (wrap32 (Int.tmod (rd l1 x16_1) 40)))))]) := ⟨_, rfl⟩
        replace H : (transposallaw08_Make.l0 k1 (wrap32 (x5_1 + (wrap32 (1 + (wrap32 (Int.tmod (rd l1 x16_1) 40)))))) l1 (l1.length : Int) (wrap64 (x16_1 + 1)) y126 0) = some (r1, r2) := by first | (rw [hy126]; with_reducible exact H) | (have H2_ := (Option.bind_some _ _).symm.trans H; rw [hy126]; with_reducible exact H2_) | (have H2_ := (Option.bind_some _ _).symm.trans H; with_reducible exact H2_) | with_reducible exact H | (rw [hy126]; exact H) | exact H
        have Ny126 := Aside0.mk hy126
        clear hy126
        have H' := Aside0.mk H
        clear H
        have p125 : 0 ≤ (x16_1 : Int) := of_decide_eq_true (by first | (with_reducible assumption) | assumption)
        have q125 : x16_1 < (l1.length : Int) := of_decide_eq_true (by first | (with_reducible assumption) | assumption)
        obtain ⟨ad125, e125, hx125_0⟩ := Kd.at_int HR1.out x16_1 p125 q125
        cases e125
        replace hx125_0 := (HB.out.cell (World.block_lt_of_cell? w _ hx125_0)).trans hx125_0
        replace p125 := eq_true p125
        replace q125 := eq_true q125
        have hnb19 := NB124_120.out
        have hnc19 := NB120_124.out
        have hcz20_0 : wr.cell? ⟨gb124, 0, none⟩ = some (u125000) := (blk_cell BK124.out 0).trans rfl
        have hcz20_1 : wr.cell? ⟨gb124, 1, none⟩ = some (.int .i32 0) := (blk_cell BK124.out 1).trans rfl
        have hfz20_0 := blk_frozen BK124.out 0
        have hfz20_1 := blk_frozen BK124.out 1
        go_wp2_with (first | ((with_reducible refine gate_builtin (b := .append) (xs := #[.tmp 30, .tmp 32]) rfl ?_); at_builtin; refine Kd.R_append (Kd.int .i32) (w0 := w) w.heap.size rfl (.tmp 30) (.tmp 32) 63 30 (.int .i32 0) 4 rfl Tryz.underlying63 info30 rfl (by decide) (by omega) u125000 x125000_1 (wrap32 (x5_1 + (wrap32 (1 + (wrap32 (Int.tmod (rd l1 x16_1) 40)))))) [.int .i32 (wrap32 (x5_1 + (wrap32 (1 + (wrap32 (Int.tmod (rd l1 x16_1) 40))))))] (fun _ => True) (fun _ => False) rfl rfl ?aP (fun _ hk => hk.elim) ?aF ?aO ?aB ?aS ?aL ?_; (case aP => exact rfl); (case aB => exact (by repeat (first | (with_reducible first | exact HB.out | apply below_alloc | apply pw_below_drewN | apply below_drew1 | refine below_set ?_ GE120.out | refine below_set ?_ GE124.out) | exact HB.out))); (case aF => exact (fun _ _ => trivial)); (case aO => exact (by (with_reducible repeat (first | apply Kd.R_alloc | apply Kd.R_drewN | apply Kd.R_drew)); exact HO_125000.out)); (case aS => exact (below_size (by repeat (first | (with_reducible first | exact HB.out | apply below_alloc | apply pw_below_drewN | apply below_drew1 | refine below_set ?_ GE120.out | refine below_set ?_ GE124.out) | exact HB.out)))); (case aL => have := LMc18.out; omega); intro v127 w21 ho hb hg hat; rw [← Ny126.out] at ho; have n0_ := Aside0.mk (blk_grown (g := gb120) (o := .cells #[.slice none 0 0, .int .i32 0] 65 (0, 0)) (by (with_reducible repeat (first | refine blk_drewN ?_ _ | refine blk_drew ?_ | refine blk_alloc ?_ _)); exact BK120.out) hg (Kd.R_ne HO_125000.out BK120.out (by decide))); have n1_ := Aside0.mk (blk_grown (g := gb124) (o := .cells #[u125000, .int .i32 0] 65 (0, 0)) (by (with_reducible repeat (first | refine blk_drewN ?_ _ | refine blk_drew ?_ | refine blk_alloc ?_ _)); exact BK124.out) hg (Kd.R_ne HO_125000.out BK124.out (by decide))); have n2_ := Aside0.mk (hb); have n3_ := Aside0.mk (ho); clear BK120; clear BK124; clear HB; clear HO_125000; have BK120 := n0_; have BK124 := n1_; have HB := n2_; have HO128 := n3_; clear n0_ n1_ n2_ n3_; clear ho hb hg hat; obtain ⟨Ao22, co22, eo22⟩ := Kd.R_slice HO128.out; subst eo22; have hcz23_0 : w21.cell? ⟨gb124, 0, none⟩ = some (u125000) := (blk_cell BK124.out 0).trans rfl; have hcz23_1 : w21.cell? ⟨gb124, 1, none⟩ = some (.int .i32 0) := (blk_cell BK124.out 1).trans rfl; have hfz23_0 := blk_frozen BK124.out 0; have hfz23_1 := blk_frozen BK124.out 1))
        go_roundg k1
        case measure => have := HK1.out; omega
        case rel => exact ⟨(wrap32 (x5_1 + (wrap32 (1 + (wrap32 (Int.tmod (rd l1 x16_1) 40)))))), (wrap64 (x16_1 + 1)), (y126), (.slice Ao22 y126.length co22), (by first | rfl | (simp; done) | (simp [*]; done)), (by first | rfl | (simp; done) | (simp [*]; done)), H', ⟨by have := HK1.out; omega⟩, ⟨by (with_reducible repeat (first | apply Kd.R_alloc | apply Kd.R_drewN | apply Kd.R_drew)); exact Kd.R_mono (Kd.R_far (p := ⟨gb124, 0, none⟩) (Kd.R_types HO128.out BK124.out (by decide)) (fun _ hk => hk.2) (.slice Ao22 y126.length co22)) (fun _ hk => trivial)⟩, ⟨by (with_reducible repeat (first | refine blk_drewN ?_ _ | refine blk_drew ?_ | refine blk_alloc ?_ _)); refine blk_far ?_ NB120_124.out _; (with_reducible repeat (first | refine blk_drewN ?_ _ | refine blk_drew ?_ | refine blk_alloc ?_ _)); exact BK120.out⟩, ⟨by (with_reducible repeat (first | refine blk_drewN ?_ _ | refine blk_drew ?_ | refine blk_alloc ?_ _)); refine blk_put (cs := #[u125000, .int .i32 0]) ?_ 0 _ rfl; (with_reducible repeat (first | refine blk_drewN ?_ _ | refine blk_drew ?_ | refine blk_alloc ?_ _)); exact BK124.out⟩, ⟨by repeat (first | (with_reducible first | exact HB.out | apply below_alloc | apply pw_below_drewN | apply below_drew1 | refine below_set ?_ GE120.out | refine below_set ?_ GE124.out) | exact HB.out)⟩⟩
       ·rw [if_neg c18] at H
        exact absurd H (by simp)
     ·rw [if_neg c12] at H
      exact absurd H (by simp)
    ·rw [if_neg c11] at H
     exact absurd H (by simp)
   ·rw [if_neg c10] at H
    have c10b0 : decide (x16_1 < (l1.length : Int)) = false := decide_eq_false c10
    clear c10
    simp only [Option.some.injEq, Prod.mk.injEq] at H
    obtain ⟨rfl, rfl⟩ := H
    have hnb24 := NB124_120.out
    have hnc24 := NB120_124.out
    have hcz25_0 : wr.cell? ⟨gb124, 0, none⟩ = some (u125000) := (blk_cell BK124.out 0).trans rfl
    have hcz25_1 : wr.cell? ⟨gb124, 1, none⟩ = some (.int .i32 0) := (blk_cell BK124.out 1).trans rfl
    have hfz25_0 := blk_frozen BK124.out 0
    have hfz25_1 := blk_frozen BK124.out 1
    obtain ⟨Ao26, co26, eo26⟩ := Kd.R_slice HO_125000.out
    subst eo26
    have hcz27_0 : wr.cell? ⟨gb120, 0, none⟩ = some (.slice none 0 0) := (blk_cell BK120.out 0).trans rfl
    have hcz27_1 : wr.cell? ⟨gb120, 1, none⟩ = some (.int .i32 0) := (blk_cell BK120.out 1).trans rfl
    have hfz27_0 := blk_frozen BK120.out 0
    have hfz27_1 := blk_frozen BK120.out 1
    go_wp2
    refine bodyPost_ret (results_cell_row rfl _ _ gb120 65 #[.slice Ao26 x125000_1.length co26, .int .i32 (wrap32 (x5_1 + 31))] (0, 0) _ rfl (by (with_reducible repeat (first | refine blk_drewN ?_ _ | refine blk_drew ?_ | refine blk_alloc ?_ _)); refine blk_put (cs := #[.slice Ao26 x125000_1.length co26, .int .i32 0]) ?_ 1 _ rfl; (with_reducible repeat (first | refine blk_drewN ?_ _ | refine blk_drew ?_ | refine blk_alloc ?_ _)); refine blk_put (cs := #[.slice none 0 0, .int .i32 0]) ?_ 0 _ rfl; (with_reducible repeat (first | refine blk_drewN ?_ _ | refine blk_drew ?_ | refine blk_alloc ?_ _)); refine blk_far ?_ NB120_124.out _; (with_reducible repeat (first | refine blk_drewN ?_ _ | refine blk_drew ?_ | refine blk_alloc ?_ _)); exact BK120.out) Tryz.underlying65 rfl (by kernel_rfl)) rfl ?_
    exact ⟨_, by first | rfl | (simp [errW_none, errW_some] <;> rfl) | (simp [*, errW_none, errW_some] <;> rfl), by (with_reducible repeat (first | apply Kd.R_alloc | apply Kd.R_drewN | apply Kd.R_drew)); exact Kd.R_mono (Kd.R_far (p := ⟨gb120, 1, none⟩) (Kd.R_far (p := ⟨gb120, 0, none⟩) (Kd.R_far (p := ⟨gb124, 1, none⟩) (Kd.R_types (Kd.R_types HO_125000.out BK124.out (by decide)) BK120.out (by decide)) (fun _ hk => hk.1.2) (.int .i32 (wrap32 (x5_1 + 31)))) (fun _ hk => hk.2) (.slice Ao26 x125000_1.length co26)) (fun _ hk => hk.2) (.int .i32 (wrap32 (x5_1 + 31)))) (fun _ hk => trivial), by repeat (first | (with_reducible first | exact HB.out | apply below_alloc | apply pw_below_drewN | apply below_drew1 | refine below_set ?_ GE120.out | refine below_set ?_ GE124.out) | exact HB.out)⟩

/-! ### day_Day_137: function 137 -/
def day_Day_137.f (a0 : Int) : Option (Bool) := some (a0 != a0)
set_option maxHeartbeats 8000000 in
set_option maxRecDepth 100000 in
theorem day_Day_137.calls (a0 : Int) (r : Bool) (w : World) (h : day_Day_137.f a0 = some r) :
  Calls Tryz.prog 137 #[.int .i32 a0] w fun e w' => e = .returned (.bool r) ∧ Drawn0 w w' := by
 have H : (some (a0 != a0)) = some r := h
 clear h
 obtain rfl := Option.some.inj H
 go_enter Tryz.func137, Tryz.ntmps137
 go_wp2
 go_ret
 exact ⟨by first | rfl | (simp; done) | (simp [*]; done), by repeat (first | exact Drawn0.refl _ | apply Drawn0.step)⟩

/-! ### day_Day_101: function 101 -/
def day_Day_101.f (a0 : Int) (a1 : Int) : Option (Bool) := (day_Day_137.f a0).bind fun t129 => (if t129 = true then ((day_Day_137.f a1).bind fun t130 => (if t130 = true then (some (decide (a0 < a1))) else (some true))) else (some (decide (a0 < a1))))
set_option maxHeartbeats 8000000 in
set_option maxRecDepth 100000 in
theorem day_Day_101.calls (a0 : Int) (a1 : Int) (r : Bool) (w : World) (h : day_Day_101.f a0 a1 = some r) :
  Calls Tryz.prog 101 #[.int .i32 a0, .int .i32 a1] w fun e w' => e = .returned (.bool r) ∧ Drawn0 w w' := by
 have H : ((day_Day_137.f a0).bind fun t129 => (if t129 = true then ((day_Day_137.f a1).bind fun t130 => (if t130 = true then (some (decide (a0 < a1))) else (some true))) else (some (decide (a0 < a1))))) = some r := h
 clear h
 replace H := Option.bind_eq_some_iff.mp H
 obtain ⟨t129, A30, H⟩ := H
 replace H : (if t129 = true then ((day_Day_137.f a1).bind fun t130 => (if t130 = true then (some (decide (a0 < a1))) else (some true))) else (some (decide (a0 < a1)))) = some r := H
 have A3 := Aside0.mk A30
 clear A30
 by_cases c4 : t129 = true
 ·subst c4
  have H1 : ((day_Day_137.f a1).bind fun t130 => (if t130 = true then (some (decide (a0 < a1))) else (some true))) = some r := by rw [if_pos rfl] at H; exact H
  clear H
  have H := H1
  clear H1
  replace H := Option.bind_eq_some_iff.mp H
  obtain ⟨t130, A50, H⟩ := H
  replace H : (if t130 = true then (some (decide (a0 < a1))) else (some true)) = some r := H
  have A5 := Aside0.mk A50
  clear A50
  by_cases c6 : t130 = true
  ·subst c6
   have H1 : (some (decide (a0 < a1))) = some r := by rw [if_pos rfl] at H; exact H
   clear H
   have H := H1
   clear H1
   obtain rfl := Option.some.inj H
   go_enter Tryz.func101, Tryz.ntmps101
   go_wp2_with (first | ((with_reducible refine gate_callee (f := 137) rfl ?_); refine goesL_ (some 6) rfl rfl Tryz.func137 (by kernel_rfl) rfl #[.int .i32 a0] rfl (by (try simp only [List.map_toArray, List.map_cons, List.map_nil]); first | done | rfl | (simp only [List.length_drop, List.length_take]; rfl)) ?_; (with_reducible refine (day_Day_137.calls a0 true _ A3.out).mono ?_); rintro e w' ⟨rfl, ⟨nd, rfl⟩⟩; refine ⟨_, rfl, ?_⟩) | (go_at_call 137; (with_reducible refine (day_Day_137.calls a1 true _ A5.out).mono ?_); rintro e w' ⟨rfl, ⟨nd, rfl⟩⟩))
   go_ret
   exact ⟨by first | rfl | (simp; done) | (simp [*]; done), by repeat (first | exact Drawn0.refl _ | apply Drawn0.step)⟩
  ·replace c6 := Bool.eq_false_iff.mpr c6
   subst c6
   have H1 : (some true) = some r := by rw [if_neg (show ¬ (false = true) by decide)] at H; exact H
   clear H
   have H := H1
   clear H1
   obtain rfl := Option.some.inj H
   go_enter Tryz.func101, Tryz.ntmps101
   go_wp2_with (first | ((with_reducible refine gate_callee (f := 137) rfl ?_); refine goesL_ (some 6) rfl rfl Tryz.func137 (by kernel_rfl) rfl #[.int .i32 a0] rfl (by (try simp only [List.map_toArray, List.map_cons, List.map_nil]); first | done | rfl | (simp only [List.length_drop, List.length_take]; rfl)) ?_; (with_reducible refine (day_Day_137.calls a0 true _ A3.out).mono ?_); rintro e w' ⟨rfl, ⟨nd, rfl⟩⟩; refine ⟨_, rfl, ?_⟩) | (go_at_call 137; (with_reducible refine (day_Day_137.calls a1 false _ A5.out).mono ?_); rintro e w' ⟨rfl, ⟨nd, rfl⟩⟩))
   go_ret
   exact ⟨by first | rfl | (simp; done) | (simp [*]; done), by repeat (first | exact Drawn0.refl _ | apply Drawn0.step)⟩
 ·replace c4 := Bool.eq_false_iff.mpr c4
  subst c4
  have H1 : (some (decide (a0 < a1))) = some r := by rw [if_neg (show ¬ (false = true) by decide)] at H; exact H
  clear H
  have H := H1
  clear H1
  obtain rfl := Option.some.inj H
  go_enter Tryz.func101, Tryz.ntmps101
  go_wp2_with (first | ((with_reducible refine gate_callee (f := 137) rfl ?_); refine goesL_ (some 6) rfl rfl Tryz.func137 (by kernel_rfl) rfl #[.int .i32 a0] rfl (by (try simp only [List.map_toArray, List.map_cons, List.map_nil]); first | done | rfl | (simp only [List.length_drop, List.length_take]; rfl)) ?_; (with_reducible refine (day_Day_137.calls a0 false _ A3.out).mono ?_); rintro e w' ⟨rfl, ⟨nd, rfl⟩⟩; refine ⟨_, rfl, ?_⟩))
  go_ret
  exact ⟨by first | rfl | (simp; done) | (simp [*]; done), by repeat (first | exact Drawn0.refl _ | apply Drawn0.step)⟩

/-! ### day_Day_102: function 102 -/
def day_Day_102.f (a0 : Int) : Option (Bool) := some (a0 != a0)
set_option maxHeartbeats 8000000 in
set_option maxRecDepth 100000 in
theorem day_Day_102.calls (a0 : Int) (r : Bool) (w : World) (h : day_Day_102.f a0 = some r) :
  Calls Tryz.prog 102 #[.int .i32 a0] w fun e w' => e = .returned (.bool r) ∧ Drawn0 w w' := by
 have H : (some (a0 != a0)) = some r := h
 clear h
 obtain rfl := Option.some.inj H
 go_enter Tryz.func102, Tryz.ntmps102
 go_wp2
 go_ret
 exact ⟨by first | rfl | (simp; done) | (simp [*]; done), by repeat (first | exact Drawn0.refl _ | apply Drawn0.step)⟩

/-! ### day_Day_81: function 81 -/
def day_Day_81.l0 : Nat → List Int → Int → Int → Int → Int → Option (Int × Bool)
 | 0, _, _, _, _, _ => none
 | k + 1, x0, x1, x6, x7, x8 => if x7 < x8 then (if 0 ≤ (wrap64 ((IntKind.u64.wrap (wrap64 (x7 + x8))) / 2)) then (if (wrap64 ((IntKind.u64.wrap (wrap64 (x7 + x8))) / 2)) < (x0.length : Int) then ((day_Day_101.f (rd x0 (wrap64 ((IntKind.u64.wrap (wrap64 (x7 + x8))) / 2))) x1).bind fun t132 => (if t132 = true then (day_Day_81.l0 k x0 x1 x6 (wrap64 ((wrap64 ((IntKind.u64.wrap (wrap64 (x7 + x8))) / 2)) + 1)) x8) else (day_Day_81.l0 k x0 x1 x6 x7 (wrap64 ((IntKind.u64.wrap (wrap64 (x7 + x8))) / 2))))) else (none)) else (none)) else (if x7 < x6 then (if 0 ≤ x7 then (if x7 < (x0.length : Int) then (if (rd x0 x7) = x1 then (some (x7, true)) else ((day_Day_102.f (rd x0 x7)).bind fun t135 => (if t135 = true then ((day_Day_102.f x1).bind fun t136 => (some (x7, t136))) else (some (x7, false))))) else (none)) else (none)) else (some (x7, false)))
def day_Day_81.f (k : Nat) (l0 : List Int) (a1 : Int) : Option (Int × Bool) := day_Day_81.l0 k l0 a1 (l0.length : Int) 0 (l0.length : Int)
theorem day_Day_81.mono_l : ∀ k, (∀ y0 y1 y2 y3 y4, LeO (day_Day_81.l0 k y0 y1 y2 y3 y4) (day_Day_81.l0 (k + 1) y0 y1 y2 y3 y4))
 | 0 => fun _ _ _ _ _ r h => by simp [day_Day_81.l0] at h
 | k + 1 => by
  have ih0 := day_Day_81.mono_l k
  ·intro y0 y1 y2 y3 y4
   unfold day_Day_81.l0
   repeat' first
   | (with_reducible exact ih0 _ _ _ _ _)
   | (with_reducible exact LeO.refl _)
   | (with_reducible exact LeO.none _)
   | (with_reducible refine LeO.ite ?_ ?_)
   | (with_reducible refine LeO.bind ?_ (fun _ => ?_))
   | exact ih0 _ _ _ _ _
   | exact LeO.none _
   | refine LeO.ite ?_ ?_
   | refine LeO.bind ?_ (fun _ => ?_)
theorem day_Day_81.mono : ∀ a0 a1 k, LeO (day_Day_81.f k a0 a1) (day_Day_81.f (k + 1) a0 a1) := by
 intro a0 a1 k
 have ih0 := day_Day_81.mono_l k
 unfold day_Day_81.f
 repeat' first
   | (with_reducible exact ih0 _ _ _ _ _)
   | (with_reducible exact LeO.refl _)
   | (with_reducible exact LeO.none _)
   | (with_reducible refine LeO.ite ?_ ?_)
   | (with_reducible refine LeO.bind ?_ (fun _ => ?_))
   | exact ih0 _ _ _ _ _
   | exact LeO.none _
   | refine LeO.ite ?_ ?_
   | refine LeO.bind ?_ (fun _ => ?_)
set_option maxHeartbeats 8000000 in
set_option maxRecDepth 100000 in
theorem day_Day_81.calls (k : Nat) (A0 : Option Addr) (c0 : Nat) (l0 : List Int) (a1 : Int) (r1 : Int) (r2 : Bool) (w : World) (hr0 : Kd.C (Kd.int .i32) w A0 l0.length l0) (hc0 : l0.length ≤ c0) (h : day_Day_81.f k l0 a1 = some (r1, r2)) :
  Calls Tryz.prog 81 #[.slice A0 l0.length c0, .int .i32 a1] w fun e w' => e = .returned (.tuple #[.int .i64 r1, .bool r2]) ∧ Drawn0 w w' := by
 have HR0 := Aside0.mk hr0
 have HC0 := Aside0.mk hc0
 clear hr0 hc0
 have H : (day_Day_81.l0 k l0 a1 (l0.length : Int) 0 (l0.length : Int)) = some (r1, r2) := h
 clear h
 have H' := Aside0.mk H
 clear H
 go_enter Tryz.func81, Tryz.ntmps81
 go_wp2
 go_loopg [7, 8] k (fun kq v7 v8 w' => ∃ (x7_1 : Int) (x8_1 : Int), v7 = .int .i64 x7_1 ∧ v8 = .int .i64 x8_1 ∧ Aside0 (day_Day_81.l0 kq l0 a1 (l0.length : Int) x7_1 x8_1 = some (r1, r2)) ∧ Aside0 (kq ≤ k) ∧ Drawn0 w w')
 case atStart => exact ⟨(0), ((l0.length : Int)), (by first | rfl | (simp; done) | (simp [*]; done)), (by first | rfl | (simp; done) | (simp [*]; done)), H', ⟨Nat.le_refl _⟩, by repeat (first | exact Drawn0.refl _ | apply Drawn0.step)⟩
 case round =>
  clear H'
  try clear p2
  obtain ⟨x7_1, x8_1, rfl, rfl, HA, HK1, ⟨m1, rfl⟩⟩ := hrel
  cases gk with
  | zero => exact absurd HA.out (by simp [day_Day_81.l0])
  | succ k1 =>
   have H := HA.out
   clear HA
   simp only [day_Day_81.l0] at H
   by_cases c3 : x7_1 < x8_1
   ·rw [if_pos c3] at H
    have c3b0 : decide (x7_1 < x8_1) = true := decide_eq_true c3
    clear c3
    obtain ⟨ji4, hji4⟩ : ∃ j_ : Int, (wrap64 ((IntKind.u64.wrap (wrap64 (x7_1 + x8_1))) / 2)) = j_ := ⟨_, rfl⟩
    replace H : (if 0 ≤ (ji4) then (if (ji4) < (l0.length : Int) then ((day_Day_101.f (rd l0 (ji4)) a1).bind fun t132 => (if t132 = true then (day_Day_81.l0 k1 l0 a1 (l0.length : Int) (wrap64 ((ji4) + 1)) x8_1) else (day_Day_81.l0 k1 l0 a1 (l0.length : Int) x7_1 ji4))) else (none)) else (none)) = some (r1, r2) := by first | (rw [hji4] at H; exact H) | (simp only [hji4] at H ⊢; exact H)
    have hji4w : (IntKind.i64.wrap ((IntKind.u64.wrap (wrap64 (x7_1 + x8_1))) / 2)) = ji4 := (i64_w _).trans hji4
    by_cases c5 : 0 ≤ (ji4)
    ·rw [if_pos c5] at H
     have c5b0 : decide (0 ≤ (ji4)) = true := decide_eq_true c5
     clear c5
     by_cases c6 : (ji4) < (l0.length : Int)
     ·rw [if_pos c6] at H
      have c6b0 : decide ((ji4) < (l0.length : Int)) = true := decide_eq_true c6
      clear c6
      replace H := Option.bind_eq_some_iff.mp H
      obtain ⟨t132, A70, H⟩ := H
      replace H : (if t132 = true then (day_Day_81.l0 k1 l0 a1 (l0.length : Int) (wrap64 ((ji4) + 1)) x8_1) else (day_Day_81.l0 k1 l0 a1 (l0.length : Int) x7_1 ji4)) = some (r1, r2) := H
      have A7 := Aside0.mk A70
      clear A70
      by_cases c8 : t132 = true
      ·subst c8
       have H1 : (day_Day_81.l0 k1 l0 a1 (l0.length : Int) (wrap64 ((ji4) + 1)) x8_1) = some (r1, r2) := by rw [if_pos rfl] at H; exact H
       clear H
       have H := H1
       clear H1
       have H' := Aside0.mk H
       clear H
       have p131 : 0 ≤ ((ji4) : Int) := of_decide_eq_true (by first | (with_reducible assumption) | assumption)
       have q131 : (ji4) < (l0.length : Int) := of_decide_eq_true (by first | (with_reducible assumption) | assumption)
       obtain ⟨ad131, e131, hx131_0⟩ := Kd.at_int HR0.out (ji4) p131 q131
       cases e131
       replace p131 := eq_true p131
       replace q131 := eq_true q131
       go_wp2_with (first | ((with_reducible refine gate_callee (f := 101) rfl ?_); refine goesL_ (some 27) rfl rfl Tryz.func101 (by kernel_rfl) rfl #[.int .i32 (rd l0 (ji4)), .int .i32 a1] rfl (by (try simp only [List.map_toArray, List.map_cons, List.map_nil]); first | done | (simp only [hji4]; rfl) | rfl | (simp only [List.length_drop, List.length_take]; rfl)) ?_; (with_reducible refine (day_Day_101.calls (rd l0 (ji4)) a1 true _ A7.out).mono ?_); rintro e w' ⟨rfl, ⟨nd, rfl⟩⟩; refine ⟨_, rfl, ?_⟩))
       go_roundg k1
       case measure => have := HK1.out; omega
       case rel => exact ⟨(wrap64 ((ji4) + 1)), (x8_1), (by first | rfl | (simp; done) | (simp only [← hji4] <;> (first | rfl | simp)) | (simp [*]; done)), (by first | rfl | (simp; done) | (simp [*]; done)), H', ⟨by have := HK1.out; omega⟩, by repeat (first | exact Drawn0.refl _ | apply Drawn0.step)⟩
      ·replace c8 := Bool.eq_false_iff.mpr c8
       subst c8
       have H1 : (day_Day_81.l0 k1 l0 a1 (l0.length : Int) x7_1 ji4) = some (r1, r2) := by rw [if_neg (show ¬ (false = true) by decide)] at H; exact H
       clear H
       have H := H1
       clear H1
       have H' := Aside0.mk H
       clear H
       have p131 : 0 ≤ ((ji4) : Int) := of_decide_eq_true (by first | (with_reducible assumption) | assumption)
       have q131 : (ji4) < (l0.length : Int) := of_decide_eq_true (by first | (with_reducible assumption) | assumption)
       obtain ⟨ad131, e131, hx131_0⟩ := Kd.at_int HR0.out (ji4) p131 q131
       cases e131
       replace p131 := eq_true p131
       replace q131 := eq_true q131
       go_wp2_with (first | ((with_reducible refine gate_callee (f := 101) rfl ?_); refine goesL_ (some 27) rfl rfl Tryz.func101 (by kernel_rfl) rfl #[.int .i32 (rd l0 (ji4)), .int .i32 a1] rfl (by (try simp only [List.map_toArray, List.map_cons, List.map_nil]); first | done | (simp only [hji4]; rfl) | rfl | (simp only [List.length_drop, List.length_take]; rfl)) ?_; (with_reducible refine (day_Day_101.calls (rd l0 (ji4)) a1 false _ A7.out).mono ?_); rintro e w' ⟨rfl, ⟨nd, rfl⟩⟩; refine ⟨_, rfl, ?_⟩))
       go_roundg k1
       case measure => have := HK1.out; omega
       case rel => exact ⟨(x7_1), (ji4), (by first | rfl | (simp; done) | (simp [*]; done)), (by first | rfl | (simp; done) | (simp only [← hji4] <;> (first | rfl | simp)) | (simp [*]; done)), H', ⟨by have := HK1.out; omega⟩, by repeat (first | exact Drawn0.refl _ | apply Drawn0.step)⟩
     ·rw [if_neg c6] at H
      exact absurd H (by simp)
    ·rw [if_neg c5] at H
     exact absurd H (by simp)
   ·rw [if_neg c3] at H
    have c3b0 : decide (x7_1 < x8_1) = false := decide_eq_false c3
    clear c3
    by_cases c9 : x7_1 < (l0.length : Int)
    ·rw [if_pos c9] at H
     have c9b0 : decide (x7_1 < (l0.length : Int)) = true := decide_eq_true c9
     clear c9
     by_cases c10 : 0 ≤ x7_1
     ·rw [if_pos c10] at H
      have c10b0 : decide (0 ≤ x7_1) = true := decide_eq_true c10
      clear c10
      by_cases c11 : x7_1 < (l0.length : Int)
      ·rw [if_pos c11] at H
       have c11b0 : decide (x7_1 < (l0.length : Int)) = true := decide_eq_true c11
       clear c11
       by_cases c12 : (rd l0 x7_1) = a1
       ·rw [if_pos c12] at H
        have c12b0 : ((rd l0 x7_1) == a1) = true := beq_iff_eq.mpr c12
        have c12b1 : ((rd l0 x7_1) != a1) = false := bne_eq_false_iff_eq.mpr c12
        clear c12
        simp only [Option.some.injEq, Prod.mk.injEq] at H
        obtain ⟨rfl, rfl⟩ := H
        have p133 : 0 ≤ (x7_1 : Int) := of_decide_eq_true (by first | (with_reducible assumption) | assumption)
        have q133 : x7_1 < (l0.length : Int) := of_decide_eq_true (by first | (with_reducible assumption) | assumption)
        obtain ⟨ad133, e133, hx133_0⟩ := Kd.at_int HR0.out x7_1 p133 q133
        cases e133
        replace p133 := eq_true p133
        replace q133 := eq_true q133
        go_wp2
        go_ret2
        exact ⟨by first | rfl | (simp; done) | (simp [*]; done), by repeat (first | exact Drawn0.refl _ | apply Drawn0.step)⟩
       ·rw [if_neg c12] at H
        have c12b0 : ((rd l0 x7_1) == a1) = false := beq_eq_false_iff_ne.mpr c12
        have c12b1 : ((rd l0 x7_1) != a1) = true := bne_iff_ne.mpr c12
        replace H := Option.bind_eq_some_iff.mp H
        obtain ⟨t135, A130, H⟩ := H
        replace H : (if t135 = true then ((day_Day_102.f a1).bind fun t136 => (some (x7_1, t136))) else (some (x7_1, false))) = some (r1, r2) := H
        have A13 := Aside0.mk A130
        clear A130
        by_cases c14 : t135 = true
        ·subst c14
         have H1 : ((day_Day_102.f a1).bind fun t136 => (some (x7_1, t136))) = some (r1, r2) := by rw [if_pos rfl] at H; exact H
         clear H
         have H := H1
         clear H1
         replace H := Option.bind_eq_some_iff.mp H
         obtain ⟨t136, A150, H⟩ := H
         replace H : (some (x7_1, t136)) = some (r1, r2) := H
         have A15 := Aside0.mk A150
         clear A150
         simp only [Option.some.injEq, Prod.mk.injEq] at H
         obtain ⟨rfl, rfl⟩ := H
         have p133 : 0 ≤ (x7_1 : Int) := of_decide_eq_true (by first | (with_reducible assumption) | assumption)
         have q133 : x7_1 < (l0.length : Int) := of_decide_eq_true (by first | (with_reducible assumption) | assumption)
         obtain ⟨ad133, e133, hx133_0⟩ := Kd.at_int HR0.out x7_1 p133 q133
         cases e133
         replace p133 := eq_true p133
         replace q133 := eq_true q133
         have p134 : 0 ≤ (x7_1 : Int) := of_decide_eq_true (by first | (with_reducible assumption) | assumption)
         have q134 : x7_1 < (l0.length : Int) := of_decide_eq_true (by first | (with_reducible assumption) | assumption)
         obtain ⟨ad134, e134, hx134_0⟩ := Kd.at_int HR0.out x7_1 p134 q134
         obtain rfl : ad133 = ad134 := (by injection e134)
         replace p134 := eq_true p134
         replace q134 := eq_true q134
         go_wp2_with (first | (go_at_call 102; (with_reducible refine (day_Day_102.calls (rd l0 x7_1) true _ A13.out).mono ?_); rintro e w' ⟨rfl, ⟨nd, rfl⟩⟩) | (go_at_call 102; (with_reducible refine (day_Day_102.calls a1 t136 _ A15.out).mono ?_); rintro e w' ⟨rfl, ⟨nd, rfl⟩⟩))
         go_ret2
         exact ⟨by first | rfl | (simp; done) | (simp [*]; done), by repeat (first | exact Drawn0.refl _ | apply Drawn0.step)⟩
        ·replace c14 := Bool.eq_false_iff.mpr c14
         subst c14
         have H1 : (some (x7_1, false)) = some (r1, r2) := by rw [if_neg (show ¬ (false = true) by decide)] at H; exact H
         clear H
         have H := H1
         clear H1
         simp only [Option.some.injEq, Prod.mk.injEq] at H
         obtain ⟨rfl, rfl⟩ := H
         have p133 : 0 ≤ (x7_1 : Int) := of_decide_eq_true (by first | (with_reducible assumption) | assumption)
         have q133 : x7_1 < (l0.length : Int) := of_decide_eq_true (by first | (with_reducible assumption) | assumption)
         obtain ⟨ad133, e133, hx133_0⟩ := Kd.at_int HR0.out x7_1 p133 q133
         cases e133
         replace p133 := eq_true p133
         replace q133 := eq_true q133
         have p134 : 0 ≤ (x7_1 : Int) := of_decide_eq_true (by first | (with_reducible assumption) | assumption)
         have q134 : x7_1 < (l0.length : Int) := of_decide_eq_true (by first | (with_reducible assumption) | assumption)
         obtain ⟨ad134, e134, hx134_0⟩ := Kd.at_int HR0.out x7_1 p134 q134
         obtain rfl : ad133 = ad134 := (by injection e134)
         replace p134 := eq_true p134
         replace q134 := eq_true q134
         go_wp2_with (first | (go_at_call 102; (with_reducible refine (day_Day_102.calls (rd l0 x7_1) false _ A13.out).mono ?_); rintro e w' ⟨rfl, ⟨nd, rfl⟩⟩))
         go_ret2
         exact ⟨by first | rfl | (simp; done) | (simp [*]; done), by repeat (first | exact Drawn0.refl _ | apply Drawn0.step)⟩
      ·rw [if_neg c11] at H
       exact absurd H (by simp)
     ·rw [if_neg c10] at H
      exact absurd H (by simp)
    ·rw [if_neg c9] at H
     have c9b0 : decide (x7_1 < (l0.length : Int)) = false := decide_eq_false c9
     clear c9
     simp only [Option.some.injEq, Prod.mk.injEq] at H
     obtain ⟨rfl, rfl⟩ := H
     go_wp2
     go_ret2
     exact ⟨by first | rfl | (simp; done) | (simp [*]; done), by repeat (first | exact Drawn0.refl _ | apply Drawn0.step)⟩

/-! ### calendar_Calendar_Period: function 55 -/
def calendar_Calendar_Period.f (k : Nat) (l0_0 : List Int) (a0_1 : Int) (a1 : Int) : Option (Int × Bool) := (day_Day_81.f k l0_0 a1).bind fun bt138 => (if bt138.2 = true then (if bt138.1 < 0 then (some (0, false)) else (if a1 ≥ a0_1 then (some (0, false)) else (some (bt138.1, true)))) else (if (wrap64 (bt138.1 - 1)) < 0 then (some (0, false)) else (if a1 ≥ a0_1 then (some (0, false)) else (some (wrap64 (bt138.1 - 1), true)))))
theorem calendar_Calendar_Period.mono : ∀ a0 a1 a2 k, LeO (calendar_Calendar_Period.f k a0 a1 a2) (calendar_Calendar_Period.f (k + 1) a0 a1 a2) := by
 intro a0 a1 a2 k
 unfold calendar_Calendar_Period.f
 repeat' first
   | (with_reducible exact day_Day_81.mono _ _ _)
   | (with_reducible exact LeO.refl _)
   | (with_reducible exact LeO.none _)
   | (with_reducible refine LeO.ite ?_ ?_)
   | (with_reducible refine LeO.bind ?_ (fun _ => ?_))
   | exact day_Day_81.mono _ _ _
   | exact LeO.none _
   | refine LeO.ite ?_ ?_
   | refine LeO.bind ?_ (fun _ => ?_)
set_option maxHeartbeats 8000000 in
set_option maxRecDepth 100000 in
theorem calendar_Calendar_Period.calls (k : Nat) (A0_0 : Option Addr) (c0_0 : Nat) (l0_0 : List Int) (a0_1 : Int) (a1 : Int) (r1 : Int) (r2 : Bool) (w : World) (hr0_0 : Kd.C (Kd.int .i32) w A0_0 l0_0.length l0_0) (hc0_0 : l0_0.length ≤ c0_0) (h : calendar_Calendar_Period.f k l0_0 a0_1 a1 = some (r1, r2)) :
  Calls Tryz.prog 55 #[.agg #[.slice A0_0 l0_0.length c0_0, .int .i32 a0_1], .int .i32 a1] w fun e w' => e = .returned (.tuple #[.int .i64 r1, .bool r2]) ∧ Below w.heap.size w w' := by
 have hu65 := Tryz.underlying65
 have HR0_0 := Aside0.mk hr0_0
 have HC0_0 := Aside0.mk hc0_0
 clear hr0_0 hc0_0
 have HB := Aside0.mk (Below.refl w.heap.size w)
 have H : ((day_Day_81.f k l0_0 a1).bind fun bt138 => (if bt138.2 = true then (if bt138.1 < 0 then (some (0, false)) else (if a1 ≥ a0_1 then (some (0, false)) else (some (bt138.1, true)))) else (if (wrap64 (bt138.1 - 1)) < 0 then (some (0, false)) else (if a1 ≥ a0_1 then (some (0, false)) else (some (wrap64 (bt138.1 - 1), true)))))) = some (r1, r2) := h
 clear h
 replace H := Option.bind_eq_some_iff.mp H
 obtain ⟨⟨t138, t139⟩, A30, H⟩ := H
 replace H : (if t139 = true then (if t138 < 0 then (some (0, false)) else (if a1 ≥ a0_1 then (some (0, false)) else (some (t138, true)))) else (if (wrap64 (t138 - 1)) < 0 then (some (0, false)) else (if a1 ≥ a0_1 then (some (0, false)) else (some (wrap64 (t138 - 1), true))))) = some (r1, r2) := H
 have A3 := Aside0.mk A30
 clear A30
 by_cases c4 : t139 = true
 ·subst c4
  have H1 : (if t138 < 0 then (some (0, false)) else (if a1 ≥ a0_1 then (some (0, false)) else (some (t138, true)))) = some (r1, r2) := by rw [if_pos rfl] at H; exact H
  clear H
  have H := H1
  clear H1
  by_cases c5 : t138 < 0
  ·rw [if_pos c5] at H
   have c5b0 : decide (t138 < 0) = true := decide_eq_true c5
   clear c5
   simp only [Option.some.injEq, Prod.mk.injEq] at H
   obtain ⟨rfl, rfl⟩ := H
   go_enter Tryz.func55, Tryz.ntmps55
   go_wp2_with (first | ((with_reducible refine gate_dst (N := 2) rfl ?_); refine box_event ?hg (N := 2) ?hd (cs := #[.slice A0_0 l0_0.length c0_0, .int .i32 a0_1]) (t := 65) ?hr ?_; (case hd => rfl); (case hg => rfl); (case hr => first | (go_simp; done) | (go_simp; rfl)); intro gb137 hg w6 hbox hb; have n0_ := Aside0.mk (below_step (by repeat (first | (with_reducible first | exact HB.out | apply below_alloc | apply pw_below_drewN | apply below_drew1) | exact HB.out)) hb); have n1_ := Aside0.mk (hbox); have n2_ := Aside0.mk ((by rw [hg]; exact (below_size (by repeat (first | (with_reducible first | exact HB.out | apply below_alloc | apply pw_below_drewN | apply below_drew1) | exact HB.out))) : w.heap.size ≤ gb137)); have n3_ := Aside0.mk ((by rw [hg]; exact (below_size (by repeat (first | (with_reducible first | exact HB.out | apply below_alloc | apply pw_below_drewN | apply below_drew1) | exact HB.out))) : w.heap.size ≤ gb137)); clear HB; have HB := n0_; have BK137 := n1_; have GW137 := n2_; have GE137 := n3_; clear n0_ n1_ n2_ n3_; clear hb hbox hg; have hcz7_0 : w6.cell? ⟨gb137, 0, none⟩ = some (.slice A0_0 l0_0.length c0_0) := (blk_cell BK137.out 0).trans rfl; have hcz7_1 : w6.cell? ⟨gb137, 1, none⟩ = some (.int .i32 a0_1) := (blk_cell BK137.out 1).trans rfl; have hfz7_0 := blk_frozen BK137.out 0; have hfz7_1 := blk_frozen BK137.out 1) | ((with_reducible refine gate_callee (f := 81) rfl ?_); refine goesL_ (some 12) rfl rfl Tryz.func81 (by kernel_rfl) rfl #[.slice A0_0 l0_0.length c0_0, .int .i32 a1] rfl (by (try simp only [List.map_toArray, List.map_cons, List.map_nil]); first | done | rfl | (simp only [List.length_drop, List.length_take]; rfl)) ?_; (with_reducible refine (day_Day_81.calls k _ _ l0_0 a1 t138 true _ ?side1 ?side2 A3.out).mono ?_); (case side1 => repeat (first | exact (Kd.C_below HR0_0.out HB.out) | (with_reducible refine Kd.C_alloc ?_ _) | (with_reducible refine Kd.C_drewN ?_ _) | (with_reducible refine Kd.C_drew ?_))); (case side2 => exact HC0_0.out); rintro e w' ⟨rfl, ⟨nd, rfl⟩⟩; refine ⟨_, rfl, ?_⟩))
   go_ret2
   exact ⟨by first | rfl | (simp [errW_none, errW_some] <;> rfl) | (simp [*, errW_none, errW_some] <;> rfl), by repeat (first | (with_reducible first | exact HB.out | apply below_alloc | apply pw_below_drewN | apply below_drew1 | refine below_set ?_ GE137.out) | exact HB.out)⟩
  ·rw [if_neg c5] at H
   have c5b0 : decide (t138 < 0) = false := decide_eq_false c5
   clear c5
   by_cases c8 : a1 ≥ a0_1
   ·rw [if_pos c8] at H
    have c8b0 : decide (a0_1 ≤ a1) = true := decide_eq_true c8
    clear c8
    simp only [Option.some.injEq, Prod.mk.injEq] at H
    obtain ⟨rfl, rfl⟩ := H
    go_enter Tryz.func55, Tryz.ntmps55
    go_wp2_with (first | ((with_reducible refine gate_dst (N := 2) rfl ?_); refine box_event ?hg (N := 2) ?hd (cs := #[.slice A0_0 l0_0.length c0_0, .int .i32 a0_1]) (t := 65) ?hr ?_; (case hd => rfl); (case hg => rfl); (case hr => first | (go_simp; done) | (go_simp; rfl)); intro gb137 hg w9 hbox hb; have n0_ := Aside0.mk (below_step (by repeat (first | (with_reducible first | exact HB.out | apply below_alloc | apply pw_below_drewN | apply below_drew1) | exact HB.out)) hb); have n1_ := Aside0.mk (hbox); have n2_ := Aside0.mk ((by rw [hg]; exact (below_size (by repeat (first | (with_reducible first | exact HB.out | apply below_alloc | apply pw_below_drewN | apply below_drew1) | exact HB.out))) : w.heap.size ≤ gb137)); have n3_ := Aside0.mk ((by rw [hg]; exact (below_size (by repeat (first | (with_reducible first | exact HB.out | apply below_alloc | apply pw_below_drewN | apply below_drew1) | exact HB.out))) : w.heap.size ≤ gb137)); clear HB; have HB := n0_; have BK137 := n1_; have GW137 := n2_; have GE137 := n3_; clear n0_ n1_ n2_ n3_; clear hb hbox hg; have hcz10_0 : w9.cell? ⟨gb137, 0, none⟩ = some (.slice A0_0 l0_0.length c0_0) := (blk_cell BK137.out 0).trans rfl; have hcz10_1 : w9.cell? ⟨gb137, 1, none⟩ = some (.int .i32 a0_1) := (blk_cell BK137.out 1).trans rfl; have hfz10_0 := blk_frozen BK137.out 0; have hfz10_1 := blk_frozen BK137.out 1) | ((with_reducible refine gate_callee (f := 81) rfl ?_); refine goesL_ (some 12) rfl rfl Tryz.func81 (by kernel_rfl) rfl #[.slice A0_0 l0_0.length c0_0, .int .i32 a1] rfl (by (try simp only [List.map_toArray, List.map_cons, List.map_nil]); first | done | rfl | (simp only [List.length_drop, List.length_take]; rfl)) ?_; (with_reducible refine (day_Day_81.calls k _ _ l0_0 a1 t138 true _ ?side1 ?side2 A3.out).mono ?_); (case side1 => repeat (first | exact (Kd.C_below HR0_0.out HB.out) | (with_reducible refine Kd.C_alloc ?_ _) | (with_reducible refine Kd.C_drewN ?_ _) | (with_reducible refine Kd.C_drew ?_))); (case side2 => exact HC0_0.out); rintro e w' ⟨rfl, ⟨nd, rfl⟩⟩; refine ⟨_, rfl, ?_⟩))
    go_ret2
    exact ⟨by first | rfl | (simp [errW_none, errW_some] <;> rfl) | (simp [*, errW_none, errW_some] <;> rfl), by repeat (first | (with_reducible first | exact HB.out | apply below_alloc | apply pw_below_drewN | apply below_drew1 | refine below_set ?_ GE137.out) | exact HB.out)⟩
   ·rw [if_neg c8] at H
    have c8b0 : decide (a0_1 ≤ a1) = false := decide_eq_false c8
    clear c8
    simp only [Option.some.injEq, Prod.mk.injEq] at H
    obtain ⟨rfl, rfl⟩ := H
    go_enter Tryz.func55, Tryz.ntmps55
    go_wp2_with (first | ((with_reducible refine gate_dst (N := 2) rfl ?_); refine box_event ?hg (N := 2) ?hd (cs := #[.slice A0_0 l0_0.length c0_0, .int .i32 a0_1]) (t := 65) ?hr ?_; (case hd => rfl); (case hg => rfl); (case hr => first | (go_simp; done) | (go_simp; rfl)); intro gb137 hg w11 hbox hb; have n0_ := Aside0.mk (below_step (by repeat (first | (with_reducible first | exact HB.out | apply below_alloc | apply pw_below_drewN | apply below_drew1) | exact HB.out)) hb); have n1_ := Aside0.mk (hbox); have n2_ := Aside0.mk ((by rw [hg]; exact (below_size (by repeat (first | (with_reducible first | exact HB.out | apply below_alloc | apply pw_below_drewN | apply below_drew1) | exact HB.out))) : w.heap.size ≤ gb137)); have n3_ := Aside0.mk ((by rw [hg]; exact (below_size (by repeat (first | (with_reducible first | exact HB.out | apply below_alloc | apply pw_below_drewN | apply below_drew1) | exact HB.out))) : w.heap.size ≤ gb137)); clear HB; have HB := n0_; have BK137 := n1_; have GW137 := n2_; have GE137 := n3_; clear n0_ n1_ n2_ n3_; clear hb hbox hg; have hcz12_0 : w11.cell? ⟨gb137, 0, none⟩ = some (.slice A0_0 l0_0.length c0_0) := (blk_cell BK137.out 0).trans rfl; have hcz12_1 : w11.cell? ⟨gb137, 1, none⟩ = some (.int .i32 a0_1) := (blk_cell BK137.out 1).trans rfl; have hfz12_0 := blk_frozen BK137.out 0; have hfz12_1 := blk_frozen BK137.out 1) | ((with_reducible refine gate_callee (f := 81) rfl ?_); refine goesL_ (some 12) rfl rfl Tryz.func81 (by kernel_rfl) rfl #[.slice A0_0 l0_0.length c0_0, .int .i32 a1] rfl (by (try simp only [List.map_toArray, List.map_cons, List.map_nil]); first | done | rfl | (simp only [List.length_drop, List.length_take]; rfl)) ?_; (with_reducible refine (day_Day_81.calls k _ _ l0_0 a1 t138 true _ ?side1 ?side2 A3.out).mono ?_); (case side1 => repeat (first | exact (Kd.C_below HR0_0.out HB.out) | (with_reducible refine Kd.C_alloc ?_ _) | (with_reducible refine Kd.C_drewN ?_ _) | (with_reducible refine Kd.C_drew ?_))); (case side2 => exact HC0_0.out); rintro e w' ⟨rfl, ⟨nd, rfl⟩⟩; refine ⟨_, rfl, ?_⟩))
    go_ret2
    exact ⟨by first | rfl | (simp [errW_none, errW_some] <;> rfl) | (simp [*, errW_none, errW_some] <;> rfl), by repeat (first | (with_reducible first | exact HB.out | apply below_alloc | apply pw_below_drewN | apply below_drew1 | refine below_set ?_ GE137.out) | exact HB.out)⟩
 ·replace c4 := Bool.eq_false_iff.mpr c4
  subst c4
  have H1 : (if (wrap64 (t138 - 1)) < 0 then (some (0, false)) else (if a1 ≥ a0_1 then (some (0, false)) else (some (wrap64 (t138 - 1), true)))) = some (r1, r2) := by rw [if_neg (show ¬ (false = true) by decide)] at H; exact H
  clear H
  have H := H1
  clear H1
  by_cases c13 : (wrap64 (t138 - 1)) < 0
  ·rw [if_pos c13] at H
   have c13b0 : decide ((wrap64 (t138 - 1)) < 0) = true := decide_eq_true c13
   clear c13
   simp only [Option.some.injEq, Prod.mk.injEq] at H
   obtain ⟨rfl, rfl⟩ := H
   go_enter Tryz.func55, Tryz.ntmps55
   go_wp2_with (first | ((with_reducible refine gate_dst (N := 2) rfl ?_); refine box_event ?hg (N := 2) ?hd (cs := #[.slice A0_0 l0_0.length c0_0, .int .i32 a0_1]) (t := 65) ?hr ?_; (case hd => rfl); (case hg => rfl); (case hr => first | (go_simp; done) | (go_simp; rfl)); intro gb137 hg w14 hbox hb; have n0_ := Aside0.mk (below_step (by repeat (first | (with_reducible first | exact HB.out | apply below_alloc | apply pw_below_drewN | apply below_drew1) | exact HB.out)) hb); have n1_ := Aside0.mk (hbox); have n2_ := Aside0.mk ((by rw [hg]; exact (below_size (by repeat (first | (with_reducible first | exact HB.out | apply below_alloc | apply pw_below_drewN | apply below_drew1) | exact HB.out))) : w.heap.size ≤ gb137)); have n3_ := Aside0.mk ((by rw [hg]; exact (below_size (by repeat (first | (with_reducible first | exact HB.out | apply below_alloc | apply pw_below_drewN | apply below_drew1) | exact HB.out))) : w.heap.size ≤ gb137)); clear HB; have HB := n0_; have BK137 := n1_; have GW137 := n2_; have GE137 := n3_; clear n0_ n1_ n2_ n3_; clear hb hbox hg; have hcz15_0 : w14.cell? ⟨gb137, 0, none⟩ = some (.slice A0_0 l0_0.length c0_0) := (blk_cell BK137.out 0).trans rfl; have hcz15_1 : w14.cell? ⟨gb137, 1, none⟩ = some (.int .i32 a0_1) := (blk_cell BK137.out 1).trans rfl; have hfz15_0 := blk_frozen BK137.out 0; have hfz15_1 := blk_frozen BK137.out 1) | ((with_reducible refine gate_callee (f := 81) rfl ?_); refine goesL_ (some 12) rfl rfl Tryz.func81 (by kernel_rfl) rfl #[.slice A0_0 l0_0.length c0_0, .int .i32 a1] rfl (by (try simp only [List.map_toArray, List.map_cons, List.map_nil]); first | done | rfl | (simp only [List.length_drop, List.length_take]; rfl)) ?_; (with_reducible refine (day_Day_81.calls k _ _ l0_0 a1 t138 false _ ?side1 ?side2 A3.out).mono ?_); (case side1 => repeat (first | exact (Kd.C_below HR0_0.out HB.out) | (with_reducible refine Kd.C_alloc ?_ _) | (with_reducible refine Kd.C_drewN ?_ _) | (with_reducible refine Kd.C_drew ?_))); (case side2 => exact HC0_0.out); rintro e w' ⟨rfl, ⟨nd, rfl⟩⟩; refine ⟨_, rfl, ?_⟩))
   go_ret2
   exact ⟨by first | rfl | (simp [errW_none, errW_some] <;> rfl) | (simp [*, errW_none, errW_some] <;> rfl), by repeat (first | (with_reducible first | exact HB.out | apply below_alloc | apply pw_below_drewN | apply below_drew1 | refine below_set ?_ GE137.out) | exact HB.out)⟩
  ·rw [if_neg c13] at H
   have c13b0 : decide ((wrap64 (t138 - 1)) < 0) = false := decide_eq_false c13
   clear c13
   by_cases c16 : a1 ≥ a0_1
   ·rw [if_pos c16] at H
    have c16b0 : decide (a0_1 ≤ a1) = true := decide_eq_true c16
    clear c16
    simp only [Option.some.injEq, Prod.mk.injEq] at H
    obtain ⟨rfl, rfl⟩ := H
    go_enter Tryz.func55, Tryz.ntmps55
    go_wp2_with (first | ((with_reducible refine gate_dst (N := 2) rfl ?_); refine box_event ?hg (N := 2) ?hd (cs := #[.slice A0_0 l0_0.length c0_0, .int .i32 a0_1]) (t := 65) ?hr ?_; (case hd => rfl); (case hg => rfl); (case hr => first | (go_simp; done) | (go_simp; rfl)); intro gb137 hg w17 hbox hb; have n0_ := Aside0.mk (below_step (by repeat (first | (with_reducible first | exact HB.out | apply below_alloc | apply pw_below_drewN | apply below_drew1) | exact HB.out)) hb); have n1_ := Aside0.mk (hbox); have n2_ := Aside0.mk ((by rw [hg]; exact (below_size (by repeat (first | (with_reducible first | exact HB.out | apply below_alloc | apply pw_below_drewN | apply below_drew1) | exact HB.out))) : w.heap.size ≤ gb137)); have n3_ := Aside0.mk ((by rw [hg]; exact (below_size (by repeat (first | (with_reducible first | exact HB.out | apply below_alloc | apply pw_below_drewN | apply below_drew1) | exact HB.out))) : w.heap.size ≤ gb137)); clear HB; have HB := n0_; have BK137 := n1_; have GW137 := n2_; have GE137 := n3_; clear n0_ n1_ n2_ n3_; clear hb hbox hg; have hcz18_0 : w17.cell? ⟨gb137, 0, none⟩ = some (.slice A0_0 l0_0.length c0_0) := (blk_cell BK137.out 0).trans rfl; have hcz18_1 : w17.cell? ⟨gb137, 1, none⟩ = some (.int .i32 a0_1) := (blk_cell BK137.out 1).trans rfl; have hfz18_0 := blk_frozen BK137.out 0; have hfz18_1 := blk_frozen BK137.out 1) | ((with_reducible refine gate_callee (f := 81) rfl ?_); refine goesL_ (some 12) rfl rfl Tryz.func81 (by kernel_rfl) rfl #[.slice A0_0 l0_0.length c0_0, .int .i32 a1] rfl (by (try simp only [List.map_toArray, List.map_cons, List.map_nil]); first | done | rfl | (simp only [List.length_drop, List.length_take]; rfl)) ?_; (with_reducible refine (day_Day_81.calls k _ _ l0_0 a1 t138 false _ ?side1 ?side2 A3.out).mono ?_); (case side1 => repeat (first | exact (Kd.C_below HR0_0.out HB.out) | (with_reducible refine Kd.C_alloc ?_ _) | (with_reducible refine Kd.C_drewN ?_ _) | (with_reducible refine Kd.C_drew ?_))); (case side2 => exact HC0_0.out); rintro e w' ⟨rfl, ⟨nd, rfl⟩⟩; refine ⟨_, rfl, ?_⟩))
    go_ret2
    exact ⟨by first | rfl | (simp [errW_none, errW_some] <;> rfl) | (simp [*, errW_none, errW_some] <;> rfl), by repeat (first | (with_reducible first | exact HB.out | apply below_alloc | apply pw_below_drewN | apply below_drew1 | refine below_set ?_ GE137.out) | exact HB.out)⟩
   ·rw [if_neg c16] at H
    have c16b0 : decide (a0_1 ≤ a1) = false := decide_eq_false c16
    clear c16
    simp only [Option.some.injEq, Prod.mk.injEq] at H
    obtain ⟨rfl, rfl⟩ := H
    go_enter Tryz.func55, Tryz.ntmps55
    go_wp2_with (first | ((with_reducible refine gate_dst (N := 2) rfl ?_); refine box_event ?hg (N := 2) ?hd (cs := #[.slice A0_0 l0_0.length c0_0, .int .i32 a0_1]) (t := 65) ?hr ?_; (case hd => rfl); (case hg => rfl); (case hr => first | (go_simp; done) | (go_simp; rfl)); intro gb137 hg w19 hbox hb; have n0_ := Aside0.mk (below_step (by repeat (first | (with_reducible first | exact HB.out | apply below_alloc | apply pw_below_drewN | apply below_drew1) | exact HB.out)) hb); have n1_ := Aside0.mk (hbox); have n2_ := Aside0.mk ((by rw [hg]; exact (below_size (by repeat (first | (with_reducible first | exact HB.out | apply below_alloc | apply pw_below_drewN | apply below_drew1) | exact HB.out))) : w.heap.size ≤ gb137)); have n3_ := Aside0.mk ((by rw [hg]; exact (below_size (by repeat (first | (with_reducible first | exact HB.out | apply below_alloc | apply pw_below_drewN | apply below_drew1) | exact HB.out))) : w.heap.size ≤ gb137)); clear HB; have HB := n0_; have BK137 := n1_; have GW137 := n2_; have GE137 := n3_; clear n0_ n1_ n2_ n3_; clear hb hbox hg; have hcz20_0 : w19.cell? ⟨gb137, 0, none⟩ = some (.slice A0_0 l0_0.length c0_0) := (blk_cell BK137.out 0).trans rfl; have hcz20_1 : w19.cell? ⟨gb137, 1, none⟩ = some (.int .i32 a0_1) := (blk_cell BK137.out 1).trans rfl; have hfz20_0 := blk_frozen BK137.out 0; have hfz20_1 := blk_frozen BK137.out 1) | ((with_reducible refine gate_callee (f := 81) rfl ?_); refine goesL_ (some 12) rfl rfl Tryz.func81 (by kernel_rfl) rfl #[.slice A0_0 l0_0.length c0_0, .int .i32 a1] rfl (by (try simp only [List.map_toArray, List.map_cons, List.map_nil]); first | done | rfl | (simp only [List.length_drop, List.length_take]; rfl)) ?_; (with_reducible refine (day_Day_81.calls k _ _ l0_0 a1 t138 false _ ?side1 ?side2 A3.out).mono ?_); (case side1 => repeat (first | exact (Kd.C_below HR0_0.out HB.out) | (with_reducible refine Kd.C_alloc ?_ _) | (with_reducible refine Kd.C_drewN ?_ _) | (with_reducible refine Kd.C_drew ?_))); (case side2 => exact HC0_0.out); rintro e w' ⟨rfl, ⟨nd, rfl⟩⟩; refine ⟨_, rfl, ?_⟩))
    go_ret2
    exact ⟨by first | rfl | (simp [errW_none, errW_some] <;> rfl) | (simp [*, errW_none, errW_some] <;> rfl), by repeat (first | (with_reducible first | exact HB.out | apply below_alloc | apply pw_below_drewN | apply below_drew1 | refine below_set ?_ GE137.out) | exact HB.out)⟩

end Go.Proofs.YtddaogebacigbaaGreatDoor.XA
