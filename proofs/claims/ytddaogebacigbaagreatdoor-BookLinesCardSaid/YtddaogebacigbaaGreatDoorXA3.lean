-- Written by a program of this session's (wip/xp) out of the translation; given functions by hand.
import Derived.Test.YtddaogebacigbaaGreatDoorXA0
import Derived.Test.YtddaogebacigbaaGreatDoorXA2
namespace Go.Proofs.YtddaogebacigbaaGreatDoor.XA
open Go.RowKit Go.Proofs.YtddaogebacigbaaGreatDoorW.PrintWords Go.Proofs.YtddaogebacigbaaGreatDoorW.PrintLast Go.Proofs.YtddaogebacigbaaGreatDoorW.PrintMore
attribute [local go_sem] max2_int min2_int max_two min_two max_three min_three max_four min_four   -- for this text's walks alone
set_option linter.unusedVariables false
set_option linter.unusedSimpArgs false

/-! ### transposallaw06_Make: function 49 -/
mutual
def transposallaw06_Make.l0 : Nat → List (S109) → Int → List (S139) → Int → Int → Option ((List (S109)))
 | 0, _, _, _, _, _ => none
 | k + 1, x3, x4, x9, x10, x11 => if x11 < x10 then (if 0 ≤ x11 then (if x11 < (x9.length : Int) then (if x11 = 40 then (some x3) else ((transposallaw06_Name.f ((rd_T139 x9 x11).f3)).bind fun t133 => (if (x3.length : Int) > 0 then (transposallaw06_Make.j1 k x3 ((x4 + (1 + (Int.tmod ((rd_T139 x9 x11).f0) 4))) % 4294967296) x9 x10 x11 (decide ((Int.tmod ((rd_T139 x9 x11).f2) 3) > 0)) ((rd_T139 x9 x11).f0) ((rd_T139 x9 x11).f1) ((rd_T139 x9 x11).f2) ((rd_T139 x9 x11).f3) ((x4 + (1 + (Int.tmod ((rd_T139 x9 x11).f0) 4))) % 4294967296) t133 (Int.tmod ((rd_T139 x9 x11).f1) 5) 0) else (transposallaw06_Make.j1 k x3 ((x4 + (1 + (Int.tmod ((rd_T139 x9 x11).f0) 4))) % 4294967296) x9 x10 x11 false ((rd_T139 x9 x11).f0) ((rd_T139 x9 x11).f1) ((rd_T139 x9 x11).f2) ((rd_T139 x9 x11).f3) ((x4 + (1 + (Int.tmod ((rd_T139 x9 x11).f0) 4))) % 4294967296) t133 (Int.tmod ((rd_T139 x9 x11).f1) 5) 0)))) else (none)) else (none)) else (some x3)
def transposallaw06_Make.j1 : Nat → List (S109) → Int → List (S139) → Int → Int → Bool → Int → Int → Int → Int → Int → ByteArray → Int → Int → Option ((List (S109)))
 | 0, _, _, _, _, _, _, _, _, _, _, _, _, _, _ => none
 | k + 1, x3, x4, x9, x10, x11, x41, x133000, x133001, x133002, x133003, x135000, x135001, x135002, x135003 => if x41 = true then (if (x3.length : Int) = 0 then (none) else (if 0 ≤ (Int.tmod (wrap64 (x133002)) (x3.length : Int)) then (if (Int.tmod (wrap64 (x133002)) (x3.length : Int)) < (x3.length : Int) then ((transposallaw06_deep.f k x3 ((rd_T109 x3 (Int.tmod (wrap64 (x133002)) (x3.length : Int))).f0)).bind fun t137 => (if t137 < 11 then (if x3.length < 4398046511104 then (transposallaw06_Make.l0 k (x3 ++ [(⟨x135000, x135001, (rd_T109 x3 (Int.tmod (wrap64 (x133002)) (x3.length : Int))).f2, (rd_T109 x3 (Int.tmod (wrap64 (x133002)) (x3.length : Int))).f0⟩ : S109)]) x4 x9 x10 (wrap64 (x11 + 1))) else (none)) else (if x3.length < 4398046511104 then (transposallaw06_Make.l0 k (x3 ++ [(⟨x135000, x135001, x135002, x135003⟩ : S109)]) x4 x9 x10 (wrap64 (x11 + 1))) else (none)))) else (none)) else (none))) else (if x3.length < 4398046511104 then (transposallaw06_Make.l0 k (x3 ++ [(⟨x135000, x135001, x135002, x135003⟩ : S109)]) x4 x9 x10 (wrap64 (x11 + 1))) else (none))
end
def transposallaw06_Make.f (k : Nat) (l0 : List (S139)) : Option ((List (S109))) := transposallaw06_Make.l0 k ([] : List (S109)) 0 l0 (l0.length : Int) 0
theorem transposallaw06_Make.mono_l : ∀ k, (∀ y0 y1 y2 y3 y4, LeO (transposallaw06_Make.l0 k y0 y1 y2 y3 y4) (transposallaw06_Make.l0 (k + 1) y0 y1 y2 y3 y4)) ∧ (∀ y0 y1 y2 y3 y4 y5 y6 y7 y8 y9 y10 y11 y12 y13, LeO (transposallaw06_Make.j1 k y0 y1 y2 y3 y4 y5 y6 y7 y8 y9 y10 y11 y12 y13) (transposallaw06_Make.j1 (k + 1) y0 y1 y2 y3 y4 y5 y6 y7 y8 y9 y10 y11 y12 y13))
 | 0 => ⟨fun _ _ _ _ _ r h => by simp [transposallaw06_Make.l0] at h, fun _ _ _ _ _ _ _ _ _ _ _ _ _ _ r h => by simp [transposallaw06_Make.j1] at h⟩
 | k + 1 => by
  obtain ⟨ih0, ih1⟩ := transposallaw06_Make.mono_l k
  refine ⟨?_, ?_⟩
  ·intro y0 y1 y2 y3 y4
   unfold transposallaw06_Make.l0
   repeat' (with_reducible first | apply ih0 | apply ih1 | apply transposallaw06_deep.mono | apply LeO.refl | apply LeO.none | refine LeO.ite ?_ ?_ | refine LeO.bind ?_ (fun _ => ?_))
  ·intro y0 y1 y2 y3 y4 y5 y6 y7 y8 y9 y10 y11 y12 y13
   unfold transposallaw06_Make.j1
   repeat' (with_reducible first | apply ih0 | apply ih1 | apply transposallaw06_deep.mono | apply LeO.refl | apply LeO.none | refine LeO.ite ?_ ?_ | refine LeO.bind ?_ (fun _ => ?_))
theorem transposallaw06_Make.mono : ∀ a0 k, LeO (transposallaw06_Make.f k a0) (transposallaw06_Make.f (k + 1) a0) := by
 intro a0 k
 obtain ⟨ih0, ih1⟩ := transposallaw06_Make.mono_l k
 unfold transposallaw06_Make.f
 repeat' (with_reducible first | apply ih0 | apply ih1 | apply transposallaw06_deep.mono | apply LeO.refl | apply LeO.none | refine LeO.ite ?_ ?_ | refine LeO.bind ?_ (fun _ => ?_))
def transposallaw06_Make.T8 : Bool × List (List Nat × List Nat) := (true, [([], []), ([], []), ([1], [1]), ([2], [2]), ([], []), ([4], [4]), ([5], [5]), ([0, 3, 6], [0, 3, 6]), ([], []), ([8, 7, 3, 0, 1, 2, 3, 4, 5, 6, 7, 8], [7, 8])])
def transposallaw06_Make.B8 : List Nat := [0, 0, 2, 6, 0, 16, 48, 127, 0, 511]
theorem transposallaw06_Make.tab8 : rtab .any (opsOf Tryz.f49 8) = transposallaw06_Make.T8 := by kernel_rfl
theorem transposallaw06_Make.bits8 : waitsOk transposallaw06_Make.T8.2 transposallaw06_Make.B8 = true := by kernel_rfl
def transposallaw06_Make.T12 : Bool × List (List Nat × List Nat) := (true, [([], []), ([0], [0]), ([], []), ([2], [2]), ([0, 1], []), ([4, 1, 0, 1], [1, 4]), ([0, 1, 2, 3, 4, 5], []), ([6, 3, 5, 0, 1, 2, 3, 4, 5], [3, 6])])
def transposallaw06_Make.B12 : List Nat := [0, 1, 0, 4, 3, 19, 63, 127]
theorem transposallaw06_Make.tab12 : rtab .any (opsOf Tryz.f49 12) = transposallaw06_Make.T12 := by kernel_rfl
theorem transposallaw06_Make.bits12 : waitsOk transposallaw06_Make.T12.2 transposallaw06_Make.B12 = true := by kernel_rfl
set_option maxHeartbeats 60000000 in
set_option maxRecDepth 100000 in
theorem transposallaw06_Make.calls (k : Nat) (A0 : Option Addr) (c0 : Nat) (l0 : List (S139)) (r : List (S109)) (w : World) (hr0 : Kd.C k139 w A0 l0.length l0) (hc0 : l0.length ≤ c0) (h : transposallaw06_Make.f k l0 = some r) :
  Calls Tryz.prog 49 #[.slice A0 l0.length c0] w fun e w' => ∃ v0_ : Value, e = .returned (v0_) ∧ Kd.R k109 109 w' w.heap.size (fun _ => True) v0_ r ∧ Below w.heap.size w w' := by
 have hu139 := Tryz.underlying139
 have hu109 := Tryz.underlying109
 have HR0 := Aside0.mk hr0
 have HC0 := Aside0.mk hc0
 clear hr0 hc0
 have HB := Aside0.mk (Below.refl w.heap.size w)
 have H : (transposallaw06_Make.l0 k ([] : List (S109)) 0 l0 (l0.length : Int) 0) = some r := h
 clear h
 have H' := Aside0.mk H
 clear H
 go_enter Tryz.func49, Tryz.ntmps49
 go_wp2
 go_loopg [3, 4, 11] k (fun kq v3 v4 v11 w' => ∃ (x3_1 : List (S109)) (x4_1 : Int) (x11_1 : Int), v4 = .int .u32 x4_1 ∧ v11 = .int .i64 x11_1 ∧ Aside0 (transposallaw06_Make.l0 kq x3_1 x4_1 l0 (l0.length : Int) x11_1 = some r) ∧ Aside0 (kq ≤ k) ∧ Aside0 (Kd.R k109 109 w' w.heap.size (fun _ => True) v3 x3_1) ∧ Aside0 (Below w.heap.size w w'))
 case atStart => exact ⟨(([] : List (S109))), (0), (0), eS, eS, H', ⟨Nat.le_refl _⟩, ⟨by first | exact Kd.R_nil _ _ _ _ _ | exact Kd.N_nil _ _ _ _ _ | exact Kd.V_nil _ _ _ _ _ | exact Kd.Q_nil _ _ _ _ _ | exact Kd.S_nil _ _ _ _ _⟩, ⟨bB⟩⟩
 case round =>
  clear H'
  obtain ⟨x3_1, x4_1, x11_1, rfl, rfl, HA, HK1, HO_3, HB⟩ := hrel
  cases gk with
  | zero => exact absurd HA.out (by simp [transposallaw06_Make.l0])
  | succ k1 =>
   have H := HA.out
   clear HA
   simp only [transposallaw06_Make.l0] at H
   by_cases c2 : x11_1 < (l0.length : Int)
   ·rw [if_pos c2] at H
    have c2b0 : decide (x11_1 < (l0.length : Int)) = true := decide_eq_true c2
    clear c2
    by_cases c3 : 0 ≤ x11_1
    ·rw [if_pos c3] at H
     have c3b0 : decide (0 ≤ x11_1) = true := decide_eq_true c3
     clear c3
     by_cases c4 : x11_1 < (l0.length : Int)
     ·rw [if_pos c4] at H
      have c4b0 : decide (x11_1 < (l0.length : Int)) = true := decide_eq_true c4
      clear c4
      by_cases c5 : x11_1 = 40
      ·rw [if_pos c5] at H
       have c5b0 : (x11_1 == 40) = true := beq_iff_eq.mpr c5
       have c5b1 : (x11_1 != 40) = false := bne_eq_false_iff_eq.mpr c5
       clear c5
       obtain rfl := Option.some.inj H
       have p131 : 0 ≤ (x11_1 : Int) := of_decide_eq_true aS
       have q131 : x11_1 < (l0.length : Int) := of_decide_eq_true aS
       obtain ⟨ad131, e131, hx131_0, hx131_1, hx131_2, hx131_3⟩ := at_T139 HR0.out x11_1 p131 q131
       cases e131
       replace hx131_0 := (HB.out.cell (World.block_lt_of_cell? w _ hx131_0)).trans hx131_0
       replace hx131_1 := (HB.out.cell (World.block_lt_of_cell? w _ hx131_1)).trans hx131_1
       replace hx131_2 := (HB.out.cell (World.block_lt_of_cell? w _ hx131_2)).trans hx131_2
       replace hx131_3 := (HB.out.cell (World.block_lt_of_cell? w _ hx131_3)).trans hx131_3
       replace p131 := eq_true p131
       replace q131 := eq_true q131
       go_wp2_with (first | ((with_reducible refine gate_dst (N := 6) rfl ?_); refine box_event ?hg (N := 6) ?hd (cs := #[.int .u8 0, .int .u8 0, .int .u8 0, .int .u8 0]) (t := 139) ?hr ?_; (case hd => rfl); (case hg => rfl); (case hr => first | (go_simp; done) | (go_simp; rfl)); intro gb132 hg w6 hbox hb; have n0_ := Aside0.mk (Kd.R_below (Kd.R_below HO_3.out oN) hb); have n1_ := Aside0.mk (below_step bB hb); have n2_ := Aside0.mk (hbox); have n3_ := Aside0.mk ((by rw [hg]; exact (below_size bB) : w.heap.size ≤ gb132)); have n4_ := Aside0.mk ((by rw [hg]; exact (below_size bB) : w.heap.size ≤ gb132)); clear HO_3; clear HB; have HO_3 := n0_; have HB := n1_; have BK132 := n2_; have GW132 := n3_; have GE132 := n4_; clear n0_ n1_ n2_ n3_ n4_; clear hb hbox hg; obtain ⟨hcz7_0, hcz7_1, hcz7_2, hcz7_3, hfz7_0, hfz7_1, hfz7_2, hfz7_3⟩ := cl4 BK132.out))
       go_ret
       exact ⟨_, eR, by (with_reducible repeat (first | apply Kd.R_alloc | apply Kd.R_drewN | apply Kd.R_drew)); exact Kd.R_mono (Kd.R_far (p := ⟨gb132, 3, none⟩) (Kd.R_far (p := ⟨gb132, 2, none⟩) (Kd.R_far (p := ⟨gb132, 1, none⟩) (Kd.R_far (p := ⟨gb132, 0, none⟩) (Kd.R_types HO_3.out BK132.out (by decide)) (fun _ hk => hk.2) (.int .u8 ((rd_T139 l0 x11_1).f0))) (fun _ hk => hk.2) (.int .u8 ((rd_T139 l0 x11_1).f1))) (fun _ hk => hk.2) (.int .u8 ((rd_T139 l0 x11_1).f2))) (fun _ hk => hk.2) (.int .u8 ((rd_T139 l0 x11_1).f3))) (fun _ hk => trivial), bG⟩
      ·rw [if_neg c5] at H
       have c5b0 : (x11_1 == 40) = false := beq_eq_false_iff_ne.mpr c5
       have c5b1 : (x11_1 != 40) = true := bne_iff_ne.mpr c5
       replace H := Option.bind_eq_some_iff.mp H
       obtain ⟨t133, A80, H⟩ := H
       replace H : (if (x3_1.length : Int) > 0 then (transposallaw06_Make.j1 k1 x3_1 ((x4_1 + (1 + (Int.tmod ((rd_T139 l0 x11_1).f0) 4))) % 4294967296) l0 (l0.length : Int) x11_1 (decide ((Int.tmod ((rd_T139 l0 x11_1).f2) 3) > 0)) ((rd_T139 l0 x11_1).f0) ((rd_T139 l0 x11_1).f1) ((rd_T139 l0 x11_1).f2) ((rd_T139 l0 x11_1).f3) ((x4_1 + (1 + (Int.tmod ((rd_T139 l0 x11_1).f0) 4))) % 4294967296) t133 (Int.tmod ((rd_T139 l0 x11_1).f1) 5) 0) else (transposallaw06_Make.j1 k1 x3_1 ((x4_1 + (1 + (Int.tmod ((rd_T139 l0 x11_1).f0) 4))) % 4294967296) l0 (l0.length : Int) x11_1 false ((rd_T139 l0 x11_1).f0) ((rd_T139 l0 x11_1).f1) ((rd_T139 l0 x11_1).f2) ((rd_T139 l0 x11_1).f3) ((x4_1 + (1 + (Int.tmod ((rd_T139 l0 x11_1).f0) 4))) % 4294967296) t133 (Int.tmod ((rd_T139 l0 x11_1).f1) 5) 0)) = some r := H
       have A8 := Aside0.mk A80
       clear A80
       have HC9 := Aside0.mk H
       clear H
       have p131 : 0 ≤ (x11_1 : Int) := of_decide_eq_true aS
       have q131 : x11_1 < (l0.length : Int) := of_decide_eq_true aS
       obtain ⟨ad131, e131, hx131_0, hx131_1, hx131_2, hx131_3⟩ := at_T139 HR0.out x11_1 p131 q131
       cases e131
       replace hx131_0 := (HB.out.cell (World.block_lt_of_cell? w _ hx131_0)).trans hx131_0
       replace hx131_1 := (HB.out.cell (World.block_lt_of_cell? w _ hx131_1)).trans hx131_1
       replace hx131_2 := (HB.out.cell (World.block_lt_of_cell? w _ hx131_2)).trans hx131_2
       replace hx131_3 := (HB.out.cell (World.block_lt_of_cell? w _ hx131_3)).trans hx131_3
       replace p131 := eq_true p131
       replace q131 := eq_true q131
       try go_wp2_with (first | ((with_reducible refine gate_dst (N := 6) rfl ?_); refine box_event ?hg (N := 6) ?hd (cs := #[.int .u8 0, .int .u8 0, .int .u8 0, .int .u8 0]) (t := 139) ?hr ?_; (case hd => rfl); (case hg => rfl); (case hr => first | (go_simp; done) | (go_simp; rfl)); intro gb132 hg w10 hbox hb; have n0_ := Aside0.mk (Kd.R_below (Kd.R_below HO_3.out oN) hb); have n1_ := Aside0.mk (below_step bB hb); have n2_ := Aside0.mk (hbox); have n3_ := Aside0.mk ((by rw [hg]; exact (below_size bB) : w.heap.size ≤ gb132)); have n4_ := Aside0.mk ((by rw [hg]; exact (below_size bB) : w.heap.size ≤ gb132)); clear HO_3; clear HB; have HO_3 := n0_; have HB := n1_; have BK132 := n2_; have GW132 := n3_; have GE132 := n4_; clear n0_ n1_ n2_ n3_ n4_; clear hb hbox hg; obtain ⟨hcz11_0, hcz11_1, hcz11_2, hcz11_3, hfz11_0, hfz11_1, hfz11_2, hfz11_3⟩ := cl4 BK132.out))
       have n0_ : Aside0 (Kd.R k109 109 ((((w10.setCell ⟨gb132, 0, none⟩ (.int .u8 ((rd_T139 l0 x11_1).f0))).setCell ⟨gb132, 1, none⟩ (.int .u8 ((rd_T139 l0 x11_1).f1))).setCell ⟨gb132, 2, none⟩ (.int .u8 ((rd_T139 l0 x11_1).f2))).setCell ⟨gb132, 3, none⟩ (.int .u8 ((rd_T139 l0 x11_1).f3))) w.heap.size (fun _ => True) u3 x3_1) := ⟨by (with_reducible repeat (first | apply Kd.R_alloc | apply Kd.R_drewN | apply Kd.R_drew)); exact Kd.R_mono (Kd.R_far (p := ⟨gb132, 3, none⟩) (Kd.R_far (p := ⟨gb132, 2, none⟩) (Kd.R_far (p := ⟨gb132, 1, none⟩) (Kd.R_far (p := ⟨gb132, 0, none⟩) (Kd.R_types HO_3.out BK132.out (by decide)) (fun _ hk => hk.2) (.int .u8 ((rd_T139 l0 x11_1).f0))) (fun _ hk => hk.2) (.int .u8 ((rd_T139 l0 x11_1).f1))) (fun _ hk => hk.2) (.int .u8 ((rd_T139 l0 x11_1).f2))) (fun _ hk => hk.2) (.int .u8 ((rd_T139 l0 x11_1).f3))) (fun _ hk => trivial)⟩
       have n1_ : Aside0 (((((w10.setCell ⟨gb132, 0, none⟩ (.int .u8 ((rd_T139 l0 x11_1).f0))).setCell ⟨gb132, 1, none⟩ (.int .u8 ((rd_T139 l0 x11_1).f1))).setCell ⟨gb132, 2, none⟩ (.int .u8 ((rd_T139 l0 x11_1).f2))).setCell ⟨gb132, 3, none⟩ (.int .u8 ((rd_T139 l0 x11_1).f3))).heap[gb132]? = some (.cells #[.int .u8 ((rd_T139 l0 x11_1).f0), .int .u8 ((rd_T139 l0 x11_1).f1), .int .u8 ((rd_T139 l0 x11_1).f2), .int .u8 ((rd_T139 l0 x11_1).f3)] 139 (0, 0))) := ⟨by (with_reducible repeat (first | refine blk_drewN ?_ _ | refine blk_drew ?_ | refine blk_alloc ?_ _)); refine blk_put (cs := #[.int .u8 ((rd_T139 l0 x11_1).f0), .int .u8 ((rd_T139 l0 x11_1).f1), .int .u8 ((rd_T139 l0 x11_1).f2), .int .u8 0]) ?_ 3 _ rfl; (with_reducible repeat (first | refine blk_drewN ?_ _ | refine blk_drew ?_ | refine blk_alloc ?_ _)); refine blk_put (cs := #[.int .u8 ((rd_T139 l0 x11_1).f0), .int .u8 ((rd_T139 l0 x11_1).f1), .int .u8 0, .int .u8 0]) ?_ 2 _ rfl; (with_reducible repeat (first | refine blk_drewN ?_ _ | refine blk_drew ?_ | refine blk_alloc ?_ _)); refine blk_put (cs := #[.int .u8 ((rd_T139 l0 x11_1).f0), .int .u8 0, .int .u8 0, .int .u8 0]) ?_ 1 _ rfl; (with_reducible repeat (first | refine blk_drewN ?_ _ | refine blk_drew ?_ | refine blk_alloc ?_ _)); refine blk_put (cs := #[.int .u8 0, .int .u8 0, .int .u8 0, .int .u8 0]) ?_ 0 _ rfl; (with_reducible repeat (first | refine blk_drewN ?_ _ | refine blk_drew ?_ | refine blk_alloc ?_ _)); exact BK132.out⟩
       have n2_ : Aside0 (Below w.heap.size w ((((w10.setCell ⟨gb132, 0, none⟩ (.int .u8 ((rd_T139 l0 x11_1).f0))).setCell ⟨gb132, 1, none⟩ (.int .u8 ((rd_T139 l0 x11_1).f1))).setCell ⟨gb132, 2, none⟩ (.int .u8 ((rd_T139 l0 x11_1).f2))).setCell ⟨gb132, 3, none⟩ (.int .u8 ((rd_T139 l0 x11_1).f3)))) := ⟨bG⟩
       (try clear HO_3)
       (try clear BK132)
       (try clear HB)
       generalize ((((w10.setCell ⟨gb132, 0, none⟩ (.int .u8 ((rd_T139 l0 x11_1).f0))).setCell ⟨gb132, 1, none⟩ (.int .u8 ((rd_T139 l0 x11_1).f1))).setCell ⟨gb132, 2, none⟩ (.int .u8 ((rd_T139 l0 x11_1).f2))).setCell ⟨gb132, 3, none⟩ (.int .u8 ((rd_T139 l0 x11_1).f3))) = w12 at n0_ n1_ n2_ ⊢
       have HO_3 := n0_
       have BK132 := n1_
       have HB := n2_
       clear n0_ n1_ n2_
       have n0_ := Aside0.mk (Kd.R_drew HO_3.out)
       have n1_ := Aside0.mk (blk_drew BK132.out)
       have n2_ := Aside0.mk (below_drew1 HB.out)
       clear HO_3
       clear BK132
       clear HB
       have HO_3 := n0_
       have BK132 := n1_
       have HB := n2_
       clear n0_ n1_ n2_
       refine start_ (n := 10) (S := fun w' => w'.cell? ⟨gb132, 0, none⟩ = some (.int .u8 ((rd_T139 l0 x11_1).f0)) ∧ w'.cell? ⟨gb132, 1, none⟩ = some (.int .u8 ((rd_T139 l0 x11_1).f1)) ∧ w'.cell? ⟨gb132, 2, none⟩ = some (.int .u8 ((rd_T139 l0 x11_1).f2)) ∧ w'.cell? ⟨gb132, 3, none⟩ = some (.int .u8 ((rd_T139 l0 x11_1).f3))) (ds := []) #[false, false, false, false, false, false, false, false, false, false] (by kernel_rfl) rfl rfl ⟨(blk_cell BK132.out 0).trans rfl, (blk_cell BK132.out 1).trans rfl, (blk_cell BK132.out 2).trans rfl, (blk_cell BK132.out 3).trans rfl⟩ (fun hHeld => ?_); refine with_tabW transposallaw06_Make.tab8 transposallaw06_Make.bits8 (fun HT_ HW_ => ?_)
       generalize w12.drew = w13 at HO_3 BK132 HB hHeld ⊢
       refine pure_ (i := 0) (N := some 25) (v := ?_) (a' := ?_) #[true, false, false, false, false, false, false, false, false, false] rfl rfl (any_of HT_.out (by kernel_rfl)) (fun _ _ _ h => h) (Or.inl ⟨by rfl, ?_⟩) ?_ ?_
       rotate_left
       ·intro w'
        go_simp
        with_reducible rfl
       rotate_left
       ·simp only [Act.put, List.setIfInBounds_toArray, List.set_cons_zero, List.set_cons_succ, i64_w, i32_w]
        rfl
       refine pure_ (i := 1) (N := some 26) (v := ?_) (a' := ?_) #[true, true, false, false, false, false, false, false, false, false] rfl rfl (any_of HT_.out (by kernel_rfl)) (fun _ _ _ h => h) (Or.inl ⟨by rfl, ?_⟩) ?_ ?_
       rotate_left
       ·intro w'
        go_simp
        with_reducible rfl
       rotate_left
       ·simp only [Act.put, List.setIfInBounds_toArray, List.set_cons_zero, List.set_cons_succ, i64_w, i32_w]
        rfl
       refine pure_ (i := 4) (N := some 29) (v := ?_) (a' := ?_) #[true, true, false, false, true, false, false, false, false, false] rfl rfl (any_of HT_.out (by kernel_rfl)) (fun _ _ _ h => h) (Or.inl ⟨by rfl, ?_⟩) ?_ ?_
       rotate_left
       ·intro w'
        go_simp
        with_reducible rfl
       rotate_left
       ·simp only [Act.put, List.setIfInBounds_toArray, List.set_cons_zero, List.set_cons_succ, i64_w, i32_w]
        rfl
       refine take_ (i := 2) (N := some 27) (v := ?_) (a' := ?_) #[true, true, true, false, true, false, false, false, false, false] rfl rfl (take_ofW HT_.out HW_.out (by kernel_rfl)) (fun _ _ _ h => h) (Or.inl ⟨by rfl, ?_⟩) hHeld ?_ ?_
       rotate_left
       ·rintro w' ⟨s0, s1, s2, s3⟩
        go_simp
        with_reducible rfl
       rotate_left
       ·simp only [Act.put, List.setIfInBounds_toArray, List.set_cons_zero, List.set_cons_succ, i64_w, i32_w]
        rfl
       refine take_ (i := 5) (N := some 30) (v := ?_) (a' := ?_) #[true, true, true, false, true, true, false, false, false, false] rfl rfl (take_ofW HT_.out HW_.out (by kernel_rfl)) (fun _ _ _ h => h) (Or.inl ⟨by rfl, ?_⟩) hHeld ?_ ?_
       rotate_left
       ·rintro w' ⟨s0, s1, s2, s3⟩
        go_simp
        with_reducible rfl
       rotate_left
       ·simp only [Act.put, List.setIfInBounds_toArray, List.set_cons_zero, List.set_cons_succ, i64_w, i32_w]
        rfl
       refine pure_ (i := 6) (N := some 31) (v := ?_) (a' := ?_) #[true, true, true, false, true, true, true, false, false, false] rfl rfl (any_of HT_.out (by kernel_rfl)) (fun _ _ _ h => h) (Or.inl ⟨by rfl, ?_⟩) ?_ ?_
       rotate_left
       ·intro w'
        go_simp
        with_reducible rfl
       rotate_left
       ·simp only [Act.put, List.setIfInBounds_toArray, List.set_cons_zero, List.set_cons_succ, i64_w, i32_w]
        rfl
       refine join_ (σ := Nat) 1 #[true, true, true, true, true, true, true, true, true, false] (fun s_ => [(28, .string t133), (7, .pointer (some ⟨s_, 0, none⟩)), (32, .agg #[.int .u32 ((x4_1 + (1 + (Int.tmod ((rd_T139 l0 x11_1).f0) 4))) % 4294967296), .string t133, .int .u8 (Int.tmod ((rd_T139 l0 x11_1).f1) 5), .int .u32 0])]) (fun s_ w' => (w'.cell? ⟨gb132, 0, none⟩ = some (.int .u8 ((rd_T139 l0 x11_1).f0)) ∧ w'.cell? ⟨gb132, 1, none⟩ = some (.int .u8 ((rd_T139 l0 x11_1).f1)) ∧ w'.cell? ⟨gb132, 2, none⟩ = some (.int .u8 ((rd_T139 l0 x11_1).f2)) ∧ w'.cell? ⟨gb132, 3, none⟩ = some (.int .u8 ((rd_T139 l0 x11_1).f3))) ∧ (Kd.R k109 109 w' w.heap.size (fun k_ => k_ ≠ s_) u3 x3_1) ∧ (w'.heap[gb132]? = some (.cells #[.int .u8 ((rd_T139 l0 x11_1).f0), .int .u8 ((rd_T139 l0 x11_1).f1), .int .u8 ((rd_T139 l0 x11_1).f2), .int .u8 ((rd_T139 l0 x11_1).f3)] 139 (0, 0))) ∧ (w'.heap[s_]? = some (.cells #[.int .u32 0, .string (⟨#[]⟩ : ByteArray), .int .u8 0, .int .u32 0] 109 (0, 0))) ∧ (w.heap.size ≤ s_) ∧ (w.heap.size ≤ s_) ∧ (gb132 ≠ s_) ∧ (s_ ≠ gb132) ∧ (Below w.heap.size w w')) ?_ ?_
       rotate_left
       ·intro hCont
        refine two_ (i := 3) (j := 8) (Ni := some 28) (Nj := some 7) #[true, true, true, true, true, true, true, false, false, false] #[true, true, true, false, true, true, true, false, true, false] rfl rfl rfl rfl (two_of HT_.out (by kernel_rfl)) (by decide) (by decide) (fun K hK => ?_) (fun K hK => ?_)
        ·skip
         refine goes_ Tryz.func77 (by kernel_rfl) rfl #[.int .u8 ((rd_T139 l0 x11_1).f3)] (by rfl) rfl rfl eA ?_
         with_reducible refine (transposallaw06_Name.calls ((rd_T139 l0 x11_1).f3) t133 _ A8.out).mono ?_
         rintro e w14 ⟨rfl, hb⟩
         refine ⟨_, rfl, ?_⟩
         have n0_ := Aside0.mk (Kd.R_below (Kd.R_below HO_3.out oN) hb)
         have n1_ := Aside0.mk (blk_below (blk_below BK132.out oN) hb)
         have n2_ := Aside0.mk (below_step bG hb)
         clear HO_3
         clear BK132
         clear HB
         have HO_3 := n0_
         have BK132 := n1_
         have HB := n2_
         clear n0_ n1_ n2_
         (try clear hb)
         (try clear hb2)
         (try clear hk)
         (try clear hi)
         refine hK.out _ _ ⟨(blk_cell BK132.out 0).trans rfl, (blk_cell BK132.out 1).trans rfl, (blk_cell BK132.out 2).trans rfl, (blk_cell BK132.out 3).trans rfl⟩ (fun hHeld => ?_)
         clear hK K
         refine norm_ (a' := ?_) ?_ ?_
         rotate_left
         ·show Act.put _ (some 28) _ = _
          simp only [Act.put, List.setIfInBounds_toArray, List.set_cons_zero, List.set_cons_succ, i64_w, i32_w]
          rfl
         refine pure_ (i := 7) (N := some 32) (v := ?_) (a' := ?_) #[true, true, true, true, true, true, true, true, false, false] rfl rfl (any_of HT_.out (by kernel_rfl)) (fun _ _ _ h => h) (Or.inl ⟨by rfl, ?_⟩) ?_ ?_
         rotate_left
         ·intro w'
          go_simp
          with_reducible rfl
         rotate_left
         ·simp only [Act.put, List.setIfInBounds_toArray, List.set_cons_zero, List.set_cons_succ, i64_w, i32_w]
          rfl
         refine one_ (i := 8) (N := some 7) #[true, true, true, true, true, true, true, true, true, false] rfl rfl (one_of HT_.out (by kernel_rfl)) (by decide) (fun K hK => ?_)
         refine box_step ?hg (N := 7) ?hd (cs := #[.int .u32 0, .string (⟨#[]⟩ : ByteArray), .int .u8 0, .int .u32 0]) (t := 109) ?hr ?_; (case hd => rfl); (case hg => rfl); (case hr => first | (go_simp; done) | (go_simp; rfl))
         intro gb134 hg w15 hbox hb
         have n0_ := Aside0.mk (Kd.R_below (Kd.R_elderB (Kd.R_below HO_3.out oN) gb134 (Nat.le_of_eq hg.symm)) hb)
         have n1_ := Aside0.mk (blk_below (blk_below BK132.out oN) hb)
         have n2_ := Aside0.mk (below_step bG hb)
         have n3_ := Aside0.mk (hbox)
         have n4_ := Aside0.mk ((by rw [hg]; exact (below_size bG) : w.heap.size ≤ gb134))
         have n5_ := Aside0.mk ((by rw [hg]; exact (below_size bG) : w.heap.size ≤ gb134))
         have n6_ := Aside0.mk ((by rw [hg]; exact Nat.ne_of_lt (blk_lt (g := gb132) (o := .cells #[.int .u8 ((rd_T139 l0 x11_1).f0), .int .u8 ((rd_T139 l0 x11_1).f1), .int .u8 ((rd_T139 l0 x11_1).f2), .int .u8 ((rd_T139 l0 x11_1).f3)] 139 (0, 0)) (blk_below BK132.out oN)) : gb132 ≠ gb134))
         have n7_ := Aside0.mk ((by rw [hg]; exact Nat.ne_of_gt (blk_lt (g := gb132) (o := .cells #[.int .u8 ((rd_T139 l0 x11_1).f0), .int .u8 ((rd_T139 l0 x11_1).f1), .int .u8 ((rd_T139 l0 x11_1).f2), .int .u8 ((rd_T139 l0 x11_1).f3)] 139 (0, 0)) (blk_below BK132.out oN)) : gb134 ≠ gb132))
         clear HO_3
         clear BK132
         clear HB
         have HO_3 := n0_
         have BK132 := n1_
         have HB := n2_
         have BK134 := n3_
         have GW134 := n4_
         have GE134 := n5_
         have NB132_134 := n6_
         have NB134_132 := n7_
         clear n0_ n1_ n2_ n3_ n4_ n5_ n6_ n7_
         clear hb hbox hg
         refine hK.out _ _ ⟨(blk_cell BK132.out 0).trans rfl, (blk_cell BK132.out 1).trans rfl, (blk_cell BK132.out 2).trans rfl, (blk_cell BK132.out 3).trans rfl⟩ (fun hHeld => ?_)
         clear hK K
         refine norm_ (a' := ?_) ?_ ?_
         rotate_left
         ·show Act.put _ (some 7) _ = _
          simp only [Act.put, List.setIfInBounds_toArray, List.set_cons_zero, List.set_cons_succ, i64_w, i32_w]
          rfl
         exact norm_ (by simp only [putAll, Act.put, List.setIfInBounds_toArray, List.set_cons_zero, List.set_cons_succ]) (hCont (gb134) _ ⟨hHeld, (by (with_reducible repeat (first | apply Kd.R_alloc | apply Kd.R_drewN | apply Kd.R_drew)); exact Kd.R_mono HO_3.out (fun _ hk => hk.2)), (blk_below BK132.out oN), (blk_below BK134.out oN), GW134.out, GE134.out, NB132_134.out, NB134_132.out, bG⟩)
        ·skip
         refine box_step ?hg (N := 7) ?hd (cs := #[.int .u32 0, .string (⟨#[]⟩ : ByteArray), .int .u8 0, .int .u32 0]) (t := 109) ?hr ?_; (case hd => rfl); (case hg => rfl); (case hr => first | (go_simp; done) | (go_simp; rfl))
         intro gb134 hg w14 hbox hb
         have n0_ := Aside0.mk (Kd.R_below (Kd.R_elderB (Kd.R_below HO_3.out oN) gb134 (Nat.le_of_eq hg.symm)) hb)
         have n1_ := Aside0.mk (blk_below (blk_below BK132.out oN) hb)
         have n2_ := Aside0.mk (below_step bG hb)
         have n3_ := Aside0.mk (hbox)
         have n4_ := Aside0.mk ((by rw [hg]; exact (below_size bG) : w.heap.size ≤ gb134))
         have n5_ := Aside0.mk ((by rw [hg]; exact (below_size bG) : w.heap.size ≤ gb134))
         have n6_ := Aside0.mk ((by rw [hg]; exact Nat.ne_of_lt (blk_lt (g := gb132) (o := .cells #[.int .u8 ((rd_T139 l0 x11_1).f0), .int .u8 ((rd_T139 l0 x11_1).f1), .int .u8 ((rd_T139 l0 x11_1).f2), .int .u8 ((rd_T139 l0 x11_1).f3)] 139 (0, 0)) (blk_below BK132.out oN)) : gb132 ≠ gb134))
         have n7_ := Aside0.mk ((by rw [hg]; exact Nat.ne_of_gt (blk_lt (g := gb132) (o := .cells #[.int .u8 ((rd_T139 l0 x11_1).f0), .int .u8 ((rd_T139 l0 x11_1).f1), .int .u8 ((rd_T139 l0 x11_1).f2), .int .u8 ((rd_T139 l0 x11_1).f3)] 139 (0, 0)) (blk_below BK132.out oN)) : gb134 ≠ gb132))
         clear HO_3
         clear BK132
         clear HB
         have HO_3 := n0_
         have BK132 := n1_
         have HB := n2_
         have BK134 := n3_
         have GW134 := n4_
         have GE134 := n5_
         have NB132_134 := n6_
         have NB134_132 := n7_
         clear n0_ n1_ n2_ n3_ n4_ n5_ n6_ n7_
         clear hb hbox hg
         refine hK.out _ _ ⟨(blk_cell BK132.out 0).trans rfl, (blk_cell BK132.out 1).trans rfl, (blk_cell BK132.out 2).trans rfl, (blk_cell BK132.out 3).trans rfl⟩ (fun hHeld => ?_)
         clear hK K
         refine norm_ (a' := ?_) ?_ ?_
         rotate_left
         ·show Act.put _ (some 7) _ = _
          simp only [Act.put, List.setIfInBounds_toArray, List.set_cons_zero, List.set_cons_succ, i64_w, i32_w]
          rfl
         refine one_ (i := 3) (N := some 28) #[true, true, true, true, true, true, true, false, true, false] rfl rfl (one_of HT_.out (by kernel_rfl)) (by decide) (fun K hK => ?_)
         refine goes_ Tryz.func77 (by kernel_rfl) rfl #[.int .u8 ((rd_T139 l0 x11_1).f3)] (by rfl) rfl rfl eA ?_
         with_reducible refine (transposallaw06_Name.calls ((rd_T139 l0 x11_1).f3) t133 _ A8.out).mono ?_
         rintro e w15 ⟨rfl, hb⟩
         refine ⟨_, rfl, ?_⟩
         have n0_ := Aside0.mk (Kd.R_below (Kd.R_below HO_3.out oN) hb)
         have n1_ := Aside0.mk (blk_below (blk_below BK132.out oN) hb)
         have n2_ := Aside0.mk (blk_below (blk_below BK134.out oN) hb)
         have n3_ := Aside0.mk (below_step bG hb)
         clear HO_3
         clear BK132
         clear BK134
         clear HB
         have HO_3 := n0_
         have BK132 := n1_
         have BK134 := n2_
         have HB := n3_
         clear n0_ n1_ n2_ n3_
         (try clear hb)
         (try clear hb2)
         (try clear hk)
         (try clear hi)
         refine hK.out _ _ ⟨(blk_cell BK132.out 0).trans rfl, (blk_cell BK132.out 1).trans rfl, (blk_cell BK132.out 2).trans rfl, (blk_cell BK132.out 3).trans rfl⟩ (fun hHeld => ?_)
         clear hK K
         refine norm_ (a' := ?_) ?_ ?_
         rotate_left
         ·show Act.put _ (some 28) _ = _
          simp only [Act.put, List.setIfInBounds_toArray, List.set_cons_zero, List.set_cons_succ, i64_w, i32_w]
          rfl
         refine pure_ (i := 7) (N := some 32) (v := ?_) (a' := ?_) #[true, true, true, true, true, true, true, true, true, false] rfl rfl (any_of HT_.out (by kernel_rfl)) (fun _ _ _ h => h) (Or.inl ⟨by rfl, ?_⟩) ?_ ?_
         rotate_left
         ·intro w'
          go_simp
          with_reducible rfl
         rotate_left
         ·simp only [Act.put, List.setIfInBounds_toArray, List.set_cons_zero, List.set_cons_succ, i64_w, i32_w]
          rfl
         exact norm_ (by simp only [putAll, Act.put, List.setIfInBounds_toArray, List.set_cons_zero, List.set_cons_succ]) (hCont (gb134) _ ⟨hHeld, (by (with_reducible repeat (first | apply Kd.R_alloc | apply Kd.R_drewN | apply Kd.R_drew)); exact Kd.R_mono HO_3.out (fun _ hk => hk.2)), (blk_below BK132.out oN), (blk_below BK134.out oN), GW134.out, GE134.out, NB132_134.out, NB134_132.out, bG⟩)
       rintro gb134 w16 ⟨hS_, h0_, h1_, h2_, h3_, h4_, h5_, h6_, h7_⟩
       have n0_ : Aside0 (Kd.R k109 109 w16 w.heap.size (fun k_ => k_ ≠ gb134) u3 x3_1) := ⟨h0_⟩
       have n1_ : Aside0 (w16.heap[gb132]? = some (.cells #[.int .u8 ((rd_T139 l0 x11_1).f0), .int .u8 ((rd_T139 l0 x11_1).f1), .int .u8 ((rd_T139 l0 x11_1).f2), .int .u8 ((rd_T139 l0 x11_1).f3)] 139 (0, 0))) := ⟨h1_⟩
       have n2_ : Aside0 (w16.heap[gb134]? = some (.cells #[.int .u32 0, .string (⟨#[]⟩ : ByteArray), .int .u8 0, .int .u32 0] 109 (0, 0))) := ⟨h2_⟩
       have n3_ : Aside0 (w.heap.size ≤ gb134) := ⟨h3_⟩
       have n4_ : Aside0 (w.heap.size ≤ gb134) := ⟨h4_⟩
       have n5_ : Aside0 (gb132 ≠ gb134) := ⟨h5_⟩
       have n6_ : Aside0 (gb134 ≠ gb132) := ⟨h6_⟩
       have n7_ : Aside0 (Below w.heap.size w w16) := ⟨h7_⟩
       clear HO_3
       clear BK132
       clear HB
       clear h0_ h1_ h2_ h3_ h4_ h5_ h6_ h7_
       have HO_3 := n0_
       have BK132 := n1_
       have BK134 := n2_
       have GW134 := n3_
       have GE134 := n4_
       have NB132_134 := n5_
       have NB134_132 := n6_
       have HB := n7_
       clear n0_ n1_ n2_ n3_ n4_ n5_ n6_ n7_
       have hHeld : w16.cell? ⟨gb132, 0, none⟩ = some (.int .u8 ((rd_T139 l0 x11_1).f0)) ∧ w16.cell? ⟨gb132, 1, none⟩ = some (.int .u8 ((rd_T139 l0 x11_1).f1)) ∧ w16.cell? ⟨gb132, 2, none⟩ = some (.int .u8 ((rd_T139 l0 x11_1).f2)) ∧ w16.cell? ⟨gb132, 3, none⟩ = some (.int .u8 ((rd_T139 l0 x11_1).f3)) := hS_
       refine norm_ (a' := ?_) ?_ ?_
       rotate_left
       ·simp only [putAll, Act.put, List.setIfInBounds_toArray, List.set_cons_zero, List.set_cons_succ]
        rfl
       refine one_ (i := 9) (N := none) #[true, true, true, true, true, true, true, true, true, true] rfl rfl (one_of HT_.out (by kernel_rfl)) (by decide) (fun K hK => ?_)
       have hs17 : w16.cell? ⟨gb134, 0, none⟩ = some (.int .u32 0) := (blk_cell BK134.out 0).trans rfl
       have hfs17 := blk_frozen BK134.out 0
       have hns17_0 := NB132_134.out
       have hms17_0 := NB134_132.out
       have hs18 : w16.cell? ⟨gb134, 1, none⟩ = some (.string (⟨#[]⟩ : ByteArray)) := (blk_cell BK134.out 1).trans rfl
       have hfs18 := blk_frozen BK134.out 1
       have hns18_0 := NB132_134.out
       have hms18_0 := NB134_132.out
       have hs19 : w16.cell? ⟨gb134, 2, none⟩ = some (.int .u8 0) := (blk_cell BK134.out 2).trans rfl
       have hfs19 := blk_frozen BK134.out 2
       have hns19_0 := NB132_134.out
       have hms19_0 := NB134_132.out
       have hs20 : w16.cell? ⟨gb134, 3, none⟩ = some (.int .u32 0) := (blk_cell BK134.out 3).trans rfl
       have hfs20 := blk_frozen BK134.out 3
       have hns20_0 := NB132_134.out
       have hms20_0 := NB134_132.out
       refine skip_ (w1 := ?_) (by rfl) rfl ?_ ?_
       rotate_left
       ·go_simp
        rfl
       refine hK.out _ _ ⟨((cell_far (p := ⟨gb134, _, none⟩) NB132_134.out _).trans (((cell_far (p := ⟨gb134, _, none⟩) NB132_134.out _).trans (((cell_far (p := ⟨gb134, _, none⟩) NB132_134.out _).trans (((cell_far (p := ⟨gb134, _, none⟩) NB132_134.out _).trans (hHeld.1)))))))), ((cell_far (p := ⟨gb134, _, none⟩) NB132_134.out _).trans (((cell_far (p := ⟨gb134, _, none⟩) NB132_134.out _).trans (((cell_far (p := ⟨gb134, _, none⟩) NB132_134.out _).trans (((cell_far (p := ⟨gb134, _, none⟩) NB132_134.out _).trans (hHeld.2.1)))))))), ((cell_far (p := ⟨gb134, _, none⟩) NB132_134.out _).trans (((cell_far (p := ⟨gb134, _, none⟩) NB132_134.out _).trans (((cell_far (p := ⟨gb134, _, none⟩) NB132_134.out _).trans (((cell_far (p := ⟨gb134, _, none⟩) NB132_134.out _).trans (hHeld.2.2.1)))))))), ((cell_far (p := ⟨gb134, _, none⟩) NB132_134.out _).trans (((cell_far (p := ⟨gb134, _, none⟩) NB132_134.out _).trans (((cell_far (p := ⟨gb134, _, none⟩) NB132_134.out _).trans (((cell_far (p := ⟨gb134, _, none⟩) NB132_134.out _).trans (hHeld.2.2.2))))))))⟩ (fun hHeld => ?_)
       clear hK K
       refine done_ (done_of HT_.out (by kernel_rfl)) ?_
       go_upto_region 9 with (fail)
       go_cut [41] (fun v41 wc => ∃ (kq : Nat) (x41_8 : Bool), v41 = .bool x41_8 ∧ Aside0 (transposallaw06_Make.j1 kq x3_1 ((x4_1 + (1 + (Int.tmod ((rd_T139 l0 x11_1).f0) 4))) % 4294967296) l0 (l0.length : Int) x11_1 x41_8 ((rd_T139 l0 x11_1).f0) ((rd_T139 l0 x11_1).f1) ((rd_T139 l0 x11_1).f2) ((rd_T139 l0 x11_1).f3) ((x4_1 + (1 + (Int.tmod ((rd_T139 l0 x11_1).f0) 4))) % 4294967296) t133 (Int.tmod ((rd_T139 l0 x11_1).f1) 5) 0 = some r) ∧ Aside0 (kq ≤ k1) ∧ Aside0 (Kd.R k109 109 wc w.heap.size (fun k_ => k_ ≠ gb134) u3 x3_1) ∧ Aside0 (wc.heap[gb132]? = some (.cells #[.int .u8 ((rd_T139 l0 x11_1).f0), .int .u8 ((rd_T139 l0 x11_1).f1), .int .u8 ((rd_T139 l0 x11_1).f2), .int .u8 ((rd_T139 l0 x11_1).f3)] 139 (0, 0))) ∧ Aside0 (wc.heap[gb134]? = some (.cells #[.int .u32 ((x4_1 + (1 + (Int.tmod ((rd_T139 l0 x11_1).f0) 4))) % 4294967296), .string t133, .int .u8 (Int.tmod ((rd_T139 l0 x11_1).f1) 5), .int .u32 0] 109 (0, 0))) ∧ Aside0 (Below w.heap.size w wc))
       case first =>
        have H := HC9.out
        clear HC9
        by_cases c21 : (x3_1.length : Int) > 0
        ·rw [if_pos c21] at H
         have c21b0 : decide (0 < (x3_1.length : Int)) = true := decide_eq_true c21
         have c21b1 : decide (0 < x3_1.length) = true := decide_eq_true (by omega)
         clear c21
         (first | rw [c21b0] | (simp only [i64_w, i32_w]; rw [c21b0]) | skip)
         have H' := Aside0.mk H
         clear H
         obtain ⟨Ao22, co22, eo22⟩ := Kd.R_slice HO_3.out
         subst eo22
         have hnb23 := NB132_134.out
         have hnc23 := NB134_132.out
         obtain ⟨hcz24_0, hcz24_1, hcz24_2, hcz24_3, hfz24_0, hfz24_1, hfz24_2, hfz24_3⟩ := cl4 BK132.out
         go_wp2
         go_meet
         case rel => exact ⟨_, (decide ((Int.tmod ((rd_T139 l0 x11_1).f2) 3) > 0)), eS, H', ⟨by have := HK1.out; first | omega | exact Nat.le_refl _⟩, ⟨by (with_reducible repeat (first | apply Kd.R_alloc | apply Kd.R_drewN | apply Kd.R_drew)); exact Kd.R_mono (Kd.R_far (p := ⟨gb134, 3, none⟩) (Kd.R_far (p := ⟨gb134, 2, none⟩) (Kd.R_far (p := ⟨gb134, 1, none⟩) (Kd.R_far (p := ⟨gb134, 0, none⟩) (Kd.R_mono HO_3.out (fun k_ hk => (⟨hk, hk⟩ : _ ∧ k_ ≠ gb134))) (fun _ hk => hk.2) (.int .u32 ((x4_1 + (1 + (Int.tmod ((rd_T139 l0 x11_1).f0) 4))) % 4294967296))) (fun _ hk => hk.2) (.string t133)) (fun _ hk => hk.2) (.int .u8 (Int.tmod ((rd_T139 l0 x11_1).f1) 5))) (fun _ hk => hk.2) (.int .u32 0)) (fun _ hk => hk.1)⟩, ⟨by (with_reducible repeat (first | refine blk_drewN ?_ _ | refine blk_drew ?_ | refine blk_alloc ?_ _)); refine blk_far ?_ NB132_134.out _; (with_reducible repeat (first | refine blk_drewN ?_ _ | refine blk_drew ?_ | refine blk_alloc ?_ _)); refine blk_far ?_ NB132_134.out _; (with_reducible repeat (first | refine blk_drewN ?_ _ | refine blk_drew ?_ | refine blk_alloc ?_ _)); refine blk_far ?_ NB132_134.out _; (with_reducible repeat (first | refine blk_drewN ?_ _ | refine blk_drew ?_ | refine blk_alloc ?_ _)); refine blk_far ?_ NB132_134.out _; (with_reducible repeat (first | refine blk_drewN ?_ _ | refine blk_drew ?_ | refine blk_alloc ?_ _)); exact BK132.out⟩, ⟨by (with_reducible repeat (first | refine blk_drewN ?_ _ | refine blk_drew ?_ | refine blk_alloc ?_ _)); refine blk_put (cs := #[.int .u32 ((x4_1 + (1 + (Int.tmod ((rd_T139 l0 x11_1).f0) 4))) % 4294967296), .string t133, .int .u8 (Int.tmod ((rd_T139 l0 x11_1).f1) 5), .int .u32 0]) ?_ 3 _ rfl; (with_reducible repeat (first | refine blk_drewN ?_ _ | refine blk_drew ?_ | refine blk_alloc ?_ _)); refine blk_put (cs := #[.int .u32 ((x4_1 + (1 + (Int.tmod ((rd_T139 l0 x11_1).f0) 4))) % 4294967296), .string t133, .int .u8 0, .int .u32 0]) ?_ 2 _ rfl; (with_reducible repeat (first | refine blk_drewN ?_ _ | refine blk_drew ?_ | refine blk_alloc ?_ _)); refine blk_put (cs := #[.int .u32 ((x4_1 + (1 + (Int.tmod ((rd_T139 l0 x11_1).f0) 4))) % 4294967296), .string (⟨#[]⟩ : ByteArray), .int .u8 0, .int .u32 0]) ?_ 1 _ rfl; (with_reducible repeat (first | refine blk_drewN ?_ _ | refine blk_drew ?_ | refine blk_alloc ?_ _)); refine blk_put (cs := #[.int .u32 0, .string (⟨#[]⟩ : ByteArray), .int .u8 0, .int .u32 0]) ?_ 0 _ rfl; (with_reducible repeat (first | refine blk_drewN ?_ _ | refine blk_drew ?_ | refine blk_alloc ?_ _)); exact BK134.out⟩, ⟨bG⟩⟩
        ·rw [if_neg c21] at H
         have c21b0 : decide (0 < (x3_1.length : Int)) = false := decide_eq_false c21
         have c21b1 : decide (0 < x3_1.length) = false := decide_eq_false (by omega)
         clear c21
         (first | rw [c21b0] | (simp only [i64_w, i32_w]; rw [c21b0]) | skip)
         have H' := Aside0.mk H
         clear H
         obtain ⟨Ao25, co25, eo25⟩ := Kd.R_slice HO_3.out
         subst eo25
         go_wp2
         go_meet
         case rel => exact ⟨_, (false), eS, H', ⟨by have := HK1.out; first | omega | exact Nat.le_refl _⟩, ⟨by (with_reducible repeat (first | apply Kd.R_alloc | apply Kd.R_drewN | apply Kd.R_drew)); exact Kd.R_mono (Kd.R_far (p := ⟨gb134, 3, none⟩) (Kd.R_far (p := ⟨gb134, 2, none⟩) (Kd.R_far (p := ⟨gb134, 1, none⟩) (Kd.R_far (p := ⟨gb134, 0, none⟩) (Kd.R_mono HO_3.out (fun k_ hk => (⟨hk, hk⟩ : _ ∧ k_ ≠ gb134))) (fun _ hk => hk.2) (.int .u32 ((x4_1 + (1 + (Int.tmod ((rd_T139 l0 x11_1).f0) 4))) % 4294967296))) (fun _ hk => hk.2) (.string t133)) (fun _ hk => hk.2) (.int .u8 (Int.tmod ((rd_T139 l0 x11_1).f1) 5))) (fun _ hk => hk.2) (.int .u32 0)) (fun _ hk => hk.1)⟩, ⟨by (with_reducible repeat (first | refine blk_drewN ?_ _ | refine blk_drew ?_ | refine blk_alloc ?_ _)); refine blk_far ?_ NB132_134.out _; (with_reducible repeat (first | refine blk_drewN ?_ _ | refine blk_drew ?_ | refine blk_alloc ?_ _)); refine blk_far ?_ NB132_134.out _; (with_reducible repeat (first | refine blk_drewN ?_ _ | refine blk_drew ?_ | refine blk_alloc ?_ _)); refine blk_far ?_ NB132_134.out _; (with_reducible repeat (first | refine blk_drewN ?_ _ | refine blk_drew ?_ | refine blk_alloc ?_ _)); refine blk_far ?_ NB132_134.out _; (with_reducible repeat (first | refine blk_drewN ?_ _ | refine blk_drew ?_ | refine blk_alloc ?_ _)); exact BK132.out⟩, ⟨by (with_reducible repeat (first | refine blk_drewN ?_ _ | refine blk_drew ?_ | refine blk_alloc ?_ _)); refine blk_put (cs := #[.int .u32 ((x4_1 + (1 + (Int.tmod ((rd_T139 l0 x11_1).f0) 4))) % 4294967296), .string t133, .int .u8 (Int.tmod ((rd_T139 l0 x11_1).f1) 5), .int .u32 0]) ?_ 3 _ rfl; (with_reducible repeat (first | refine blk_drewN ?_ _ | refine blk_drew ?_ | refine blk_alloc ?_ _)); refine blk_put (cs := #[.int .u32 ((x4_1 + (1 + (Int.tmod ((rd_T139 l0 x11_1).f0) 4))) % 4294967296), .string t133, .int .u8 0, .int .u32 0]) ?_ 2 _ rfl; (with_reducible repeat (first | refine blk_drewN ?_ _ | refine blk_drew ?_ | refine blk_alloc ?_ _)); refine blk_put (cs := #[.int .u32 ((x4_1 + (1 + (Int.tmod ((rd_T139 l0 x11_1).f0) 4))) % 4294967296), .string (⟨#[]⟩ : ByteArray), .int .u8 0, .int .u32 0]) ?_ 1 _ rfl; (with_reducible repeat (first | refine blk_drewN ?_ _ | refine blk_drew ?_ | refine blk_alloc ?_ _)); refine blk_put (cs := #[.int .u32 0, .string (⟨#[]⟩ : ByteArray), .int .u8 0, .int .u32 0]) ?_ 0 _ rfl; (with_reducible repeat (first | refine blk_drewN ?_ _ | refine blk_drew ?_ | refine blk_alloc ?_ _)); exact BK134.out⟩, ⟨bG⟩⟩
       case rest =>
        clear HC9
        try clear p1
        try clear q1
        try clear hx1
        try clear c2
        try clear c2b0
        try clear p2
        try clear c3
        try clear c3b0
        try clear c4
        try clear c4b0
        try clear c5
        try clear c5b0
        try clear c5b1
        try clear c7
        try clear p13
        try clear q13
        try clear hx13
        try clear c21
        try clear c21b0
        try clear c21b1
        try clear c23
        try clear hcz11_0
        try clear hcz11_1
        try clear hcz11_2
        try clear hcz11_3
        try clear hcz24_0
        try clear hcz24_1
        try clear hcz24_2
        try clear hcz24_3
        try clear hcz7_0
        try clear hcz7_1
        try clear hcz7_2
        try clear hcz7_3
        try clear hfz11_0
        try clear hfz11_1
        try clear hfz11_2
        try clear hfz11_3
        try clear hfz24_0
        try clear hfz24_1
        try clear hfz24_2
        try clear hfz24_3
        try clear hfz7_0
        try clear hfz7_1
        try clear hfz7_2
        try clear hfz7_3
        try clear hx131_0
        try clear hx131_1
        try clear hx131_2
        try clear hx131_3
        try clear p131
        try clear q131
        obtain ⟨kq, x41_8, rfl, HA, HJ8, HO_3, BK132, BK134, HB⟩ := hcut
        cases kq with
        | zero => exact absurd HA.out (by simp [transposallaw06_Make.j1])
        | succ kj8 =>
         have H := HA.out
         clear HA
         simp only [transposallaw06_Make.j1] at H
         by_cases c26 : x41_8 = true
         ·subst c26
          have H1 : (if (x3_1.length : Int) = 0 then (none) else (if 0 ≤ (Int.tmod (wrap64 (((rd_T139 l0 x11_1).f2))) (x3_1.length : Int)) then (if (Int.tmod (wrap64 (((rd_T139 l0 x11_1).f2))) (x3_1.length : Int)) < (x3_1.length : Int) then ((transposallaw06_deep.f kj8 x3_1 ((rd_T109 x3_1 (Int.tmod (wrap64 (((rd_T139 l0 x11_1).f2))) (x3_1.length : Int))).f0)).bind fun t137 => (if t137 < 11 then (if x3_1.length < 4398046511104 then (transposallaw06_Make.l0 kj8 (x3_1 ++ [(⟨((x4_1 + (1 + (Int.tmod ((rd_T139 l0 x11_1).f0) 4))) % 4294967296), t133, (rd_T109 x3_1 (Int.tmod (wrap64 (((rd_T139 l0 x11_1).f2))) (x3_1.length : Int))).f2, (rd_T109 x3_1 (Int.tmod (wrap64 (((rd_T139 l0 x11_1).f2))) (x3_1.length : Int))).f0⟩ : S109)]) ((x4_1 + (1 + (Int.tmod ((rd_T139 l0 x11_1).f0) 4))) % 4294967296) l0 (l0.length : Int) (wrap64 (x11_1 + 1))) else (none)) else (if x3_1.length < 4398046511104 then (transposallaw06_Make.l0 kj8 (x3_1 ++ [(⟨((x4_1 + (1 + (Int.tmod ((rd_T139 l0 x11_1).f0) 4))) % 4294967296), t133, (Int.tmod ((rd_T139 l0 x11_1).f1) 5), 0⟩ : S109)]) ((x4_1 + (1 + (Int.tmod ((rd_T139 l0 x11_1).f0) 4))) % 4294967296) l0 (l0.length : Int) (wrap64 (x11_1 + 1))) else (none)))) else (none)) else (none))) = some r := by rw [if_pos rfl] at H; exact H
          clear H
          have H := H1
          clear H1
          by_cases c27 : (x3_1.length : Int) = 0
          ·rw [if_pos c27] at H
           exact absurd H (by simp)
          ·rw [if_neg c27] at H
           have c27b0 : ((x3_1.length : Int) == 0) = false := beq_eq_false_iff_ne.mpr c27
           have c27b1 : ((x3_1.length : Int) != 0) = true := bne_iff_ne.mpr c27
           have c27b2 : ¬ (x3_1 = []) := fun h_ => c27 (by rw [h_]; rfl)
           obtain ⟨ji28, hji28⟩ : ∃ j_ : Int, (Int.tmod (wrap64 (((rd_T139 l0 x11_1).f2))) (x3_1.length : Int)) = j_ := ⟨_, rfl⟩
           replace H : (if 0 ≤ (ji28) then (if (ji28) < (x3_1.length : Int) then ((transposallaw06_deep.f kj8 x3_1 ((rd_T109 x3_1 (ji28)).f0)).bind fun t137 => (if t137 < 11 then (if x3_1.length < 4398046511104 then (transposallaw06_Make.l0 kj8 (x3_1 ++ [(⟨((x4_1 + (1 + (Int.tmod ((rd_T139 l0 x11_1).f0) 4))) % 4294967296), t133, (rd_T109 x3_1 (ji28)).f2, (rd_T109 x3_1 (ji28)).f0⟩ : S109)]) ((x4_1 + (1 + (Int.tmod ((rd_T139 l0 x11_1).f0) 4))) % 4294967296) l0 (l0.length : Int) (wrap64 (x11_1 + 1))) else (none)) else (if x3_1.length < 4398046511104 then (transposallaw06_Make.l0 kj8 (x3_1 ++ [(⟨((x4_1 + (1 + (Int.tmod ((rd_T139 l0 x11_1).f0) 4))) % 4294967296), t133, (Int.tmod ((rd_T139 l0 x11_1).f1) 5), 0⟩ : S109)]) ((x4_1 + (1 + (Int.tmod ((rd_T139 l0 x11_1).f0) 4))) % 4294967296) l0 (l0.length : Int) (wrap64 (x11_1 + 1))) else (none)))) else (none)) else (none)) = some r := by first | (rw [hji28] at H; exact H) | (simp only [hji28] at H ⊢; exact H)
           by_cases c29 : 0 ≤ (ji28)
           ·rw [if_pos c29] at H
            have c29b0 : decide (0 ≤ (ji28)) = true := decide_eq_true c29
            clear c29
            by_cases c30 : (ji28) < (x3_1.length : Int)
            ·rw [if_pos c30] at H
             have c30b0 : decide ((ji28) < (x3_1.length : Int)) = true := decide_eq_true c30
             clear c30
             replace H := Option.bind_eq_some_iff.mp H
             obtain ⟨t137, A310, H⟩ := H
             replace H : (if t137 < 11 then (if x3_1.length < 4398046511104 then (transposallaw06_Make.l0 kj8 (x3_1 ++ [(⟨((x4_1 + (1 + (Int.tmod ((rd_T139 l0 x11_1).f0) 4))) % 4294967296), t133, (rd_T109 x3_1 (ji28)).f2, (rd_T109 x3_1 (ji28)).f0⟩ : S109)]) ((x4_1 + (1 + (Int.tmod ((rd_T139 l0 x11_1).f0) 4))) % 4294967296) l0 (l0.length : Int) (wrap64 (x11_1 + 1))) else (none)) else (if x3_1.length < 4398046511104 then (transposallaw06_Make.l0 kj8 (x3_1 ++ [(⟨((x4_1 + (1 + (Int.tmod ((rd_T139 l0 x11_1).f0) 4))) % 4294967296), t133, (Int.tmod ((rd_T139 l0 x11_1).f1) 5), 0⟩ : S109)]) ((x4_1 + (1 + (Int.tmod ((rd_T139 l0 x11_1).f0) 4))) % 4294967296) l0 (l0.length : Int) (wrap64 (x11_1 + 1))) else (none))) = some r := H
             have A31 := Aside0.mk A310
             clear A310
             by_cases c32 : t137 < 11
             ·rw [if_pos c32] at H
              have c32b0 : decide (t137 < 11) = true := decide_eq_true c32
              clear c32
              by_cases c33 : x3_1.length < 4398046511104
              ·rw [if_pos c33] at H
               have LMc33 := Aside0.mk c33
               clear c33
               obtain ⟨y138, hy138⟩ : ∃ y_ : List (S109), y_ = (x3_1 ++ [(⟨((x4_1 + (1 + (Int.tmod ((rd_T139 l0 x11_1).f0) 4))) % 4294967296), t133, (rd_T109 x3_1 (ji28)).f2, (rd_T109 x3_1 (ji28)).f0⟩ : S109)]) := ⟨_, rfl⟩
               replace H : (transposallaw06_Make.l0 kj8 y138 ((x4_1 + (1 + (Int.tmod ((rd_T139 l0 x11_1).f0) 4))) % 4294967296) l0 (l0.length : Int) (wrap64 (x11_1 + 1))) = some r := by first | (rw [hy138]; with_reducible exact H) | (have H2_ := (Option.bind_some _ _).symm.trans H; rw [hy138]; with_reducible exact H2_) | (have H2_ := (Option.bind_some _ _).symm.trans H; with_reducible exact H2_) | with_reducible exact H | (rw [hy138]; exact H) | exact H
               have Ny138 := Aside0.mk hy138
               clear hy138
               have H' := Aside0.mk H
               clear H
               have hnb34 := NB132_134.out
               have hnc34 := NB134_132.out
               obtain ⟨hcz35_0, hcz35_1, hcz35_2, hcz35_3, hfz35_0, hfz35_1, hfz35_2, hfz35_3⟩ := cl4 BK132.out
               obtain ⟨Ao36, co36, eo36⟩ := Kd.R_slice HO_3.out
               subst eo36
               have p135 : 0 ≤ ((ji28) : Int) := of_decide_eq_true aS
               have q135 : (ji28) < (x3_1.length : Int) := of_decide_eq_true aS
               obtain ⟨ad135, e135, hx135_0, hx135_1, hx135_2, hx135_3⟩ := at_T109 (Kd.R_reads' HO_3.out).2.2 (ji28) p135 q135
               cases e135
               replace p135 := eq_true p135
               replace q135 := eq_true q135
               try go_wp2_with (first | ((with_reducible refine gate_dst (N := 8) rfl ?_); refine box_event ?hg (N := 8) ?hd (cs := #[.int .u32 0, .string (⟨#[]⟩ : ByteArray), .int .u8 0, .int .u32 0]) (t := 109) ?hr ?_; (case hd => rfl); (case hg => rfl); (case hr => first | (go_simp; done) | (go_simp; rfl)); intro gb136 hg w37 hbox hb; have n0_ := Aside0.mk (Kd.R_below (Kd.R_elderB (Kd.R_below HO_3.out oN) gb136 (Nat.le_of_eq hg.symm)) hb); have n1_ := Aside0.mk (blk_below (blk_below BK132.out oN) hb); have n2_ := Aside0.mk (blk_below (blk_below BK134.out oN) hb); have n3_ := Aside0.mk (below_step bG hb); have n4_ := Aside0.mk (hbox); have n5_ := Aside0.mk ((by rw [hg]; exact (below_size bG) : w.heap.size ≤ gb136)); have n6_ := Aside0.mk ((by rw [hg]; exact (below_size bG) : w.heap.size ≤ gb136)); have n7_ := Aside0.mk ((by rw [hg]; exact Nat.ne_of_lt (blk_lt (g := gb132) (o := .cells #[.int .u8 ((rd_T139 l0 x11_1).f0), .int .u8 ((rd_T139 l0 x11_1).f1), .int .u8 ((rd_T139 l0 x11_1).f2), .int .u8 ((rd_T139 l0 x11_1).f3)] 139 (0, 0)) (blk_below BK132.out oN)) : gb132 ≠ gb136)); have n8_ := Aside0.mk ((by rw [hg]; exact Nat.ne_of_gt (blk_lt (g := gb132) (o := .cells #[.int .u8 ((rd_T139 l0 x11_1).f0), .int .u8 ((rd_T139 l0 x11_1).f1), .int .u8 ((rd_T139 l0 x11_1).f2), .int .u8 ((rd_T139 l0 x11_1).f3)] 139 (0, 0)) (blk_below BK132.out oN)) : gb136 ≠ gb132)); have n9_ := Aside0.mk ((by rw [hg]; exact Nat.ne_of_lt (blk_lt (g := gb134) (o := .cells #[.int .u32 ((x4_1 + (1 + (Int.tmod ((rd_T139 l0 x11_1).f0) 4))) % 4294967296), .string t133, .int .u8 (Int.tmod ((rd_T139 l0 x11_1).f1) 5), .int .u32 0] 109 (0, 0)) (blk_below BK134.out oN)) : gb134 ≠ gb136)); have n10_ := Aside0.mk ((by rw [hg]; exact Nat.ne_of_gt (blk_lt (g := gb134) (o := .cells #[.int .u32 ((x4_1 + (1 + (Int.tmod ((rd_T139 l0 x11_1).f0) 4))) % 4294967296), .string t133, .int .u8 (Int.tmod ((rd_T139 l0 x11_1).f1) 5), .int .u32 0] 109 (0, 0)) (blk_below BK134.out oN)) : gb136 ≠ gb134)); clear HO_3; clear BK132; clear BK134; clear HB; have HO_3 := n0_; have BK132 := n1_; have BK134 := n2_; have HB := n3_; have BK136 := n4_; have GW136 := n5_; have GE136 := n6_; have NB132_136 := n7_; have NB136_132 := n8_; have NB134_136 := n9_; have NB136_134 := n10_; clear n0_ n1_ n2_ n3_ n4_ n5_ n6_ n7_ n8_ n9_ n10_; clear hb hbox hg; have hnb38 := NB136_132.out; have hnc38 := NB132_136.out; have hnb39 := NB136_134.out; have hnc39 := NB134_136.out; obtain ⟨hcz40_0, hcz40_1, hcz40_2, hcz40_3, hfz40_0, hfz40_1, hfz40_2, hfz40_3⟩ := cl4 BK136.out) | ((with_reducible refine gate_callee (f := 69) rfl ?_); refine goesL_ (some 54) rfl rfl Tryz.func69 (by kernel_rfl) rfl #[.slice (some ad135) x3_1.length co36, .int .u32 ((rd_T109 x3_1 (ji28)).f0)] rfl (by (try simp only [List.map_toArray, List.map_cons, List.map_nil]); first | done | (simp only [hji28]; rfl) | rfl | (simp only [List.length_drop, List.length_take]; rfl)) ?_; (with_reducible refine (transposallaw06_deep.calls kj8 _ _ x3_1 ((rd_T109 x3_1 (ji28)).f0) t137 _ ?side1 ?side2 A31.out).mono ?_); (case side1 => refine (Kd.R_reads' (e := 109) (base := w.heap.size) (ok := fun k_ => (k_ ≠ gb134 ∧ k_ ≠ gb136)) (n := x3_1.length) (c := co36) ?_).2.2; exact (by (with_reducible repeat (first | apply Kd.R_alloc | apply Kd.R_drewN | apply Kd.R_drew)); exact (Kd.R_mono (Kd.R_far (p := ⟨gb136, 3, none⟩) (Kd.R_far (p := ⟨gb136, 2, none⟩) (Kd.R_far (p := ⟨gb136, 1, none⟩) (Kd.R_far (p := ⟨gb136, 0, none⟩) (Kd.R_mono HO_3.out (fun k_ hk => (⟨hk, hk.2⟩ : _ ∧ k_ ≠ gb136))) (fun _ hk => hk.2) (.int .u32 ((rd_T109 x3_1 (ji28)).f0))) (fun _ hk => hk.2) (.string ((rd_T109 x3_1 (ji28)).f1))) (fun _ hk => hk.2) (.int .u8 ((rd_T109 x3_1 (ji28)).f2))) (fun _ hk => hk.2) (.int .u32 ((rd_T109 x3_1 (ji28)).f3))) (fun _ h_ => h_.1)))); (case side2 => exact (Kd.R_reads' HO_3.out).2.1); rintro e w41 ⟨rfl, hb⟩; refine ⟨_, rfl, ?_⟩; replace HO_3 := Aside0.mk (Kd.R_below (by (with_reducible repeat (first | apply Kd.R_alloc | apply Kd.R_drewN | apply Kd.R_drew)); exact (Kd.R_mono (Kd.R_far (p := ⟨gb136, 3, none⟩) (Kd.R_far (p := ⟨gb136, 2, none⟩) (Kd.R_far (p := ⟨gb136, 1, none⟩) (Kd.R_far (p := ⟨gb136, 0, none⟩) (Kd.R_mono HO_3.out (fun k_ hk => (⟨hk, hk.2⟩ : _ ∧ k_ ≠ gb136))) (fun _ hk => hk.2) (.int .u32 ((rd_T109 x3_1 (ji28)).f0))) (fun _ hk => hk.2) (.string ((rd_T109 x3_1 (ji28)).f1))) (fun _ hk => hk.2) (.int .u8 ((rd_T109 x3_1 (ji28)).f2))) (fun _ hk => hk.2) (.int .u32 ((rd_T109 x3_1 (ji28)).f3))) (fun _ h_ => h_.1))) hb); replace BK132 := Aside0.mk (blk_below (g := gb132) (o := .cells #[.int .u8 ((rd_T139 l0 x11_1).f0), .int .u8 ((rd_T139 l0 x11_1).f1), .int .u8 ((rd_T139 l0 x11_1).f2), .int .u8 ((rd_T139 l0 x11_1).f3)] 139 (0, 0)) (by (with_reducible repeat (first | refine blk_drewN ?_ _ | refine blk_drew ?_ | refine blk_alloc ?_ _)); refine blk_far ?_ NB132_136.out _; (with_reducible repeat (first | refine blk_drewN ?_ _ | refine blk_drew ?_ | refine blk_alloc ?_ _)); refine blk_far ?_ NB132_136.out _; (with_reducible repeat (first | refine blk_drewN ?_ _ | refine blk_drew ?_ | refine blk_alloc ?_ _)); refine blk_far ?_ NB132_136.out _; (with_reducible repeat (first | refine blk_drewN ?_ _ | refine blk_drew ?_ | refine blk_alloc ?_ _)); refine blk_far ?_ NB132_136.out _; (with_reducible repeat (first | refine blk_drewN ?_ _ | refine blk_drew ?_ | refine blk_alloc ?_ _)); exact BK132.out) hb); replace BK134 := Aside0.mk (blk_below (g := gb134) (o := .cells #[.int .u32 ((x4_1 + (1 + (Int.tmod ((rd_T139 l0 x11_1).f0) 4))) % 4294967296), .string t133, .int .u8 (Int.tmod ((rd_T139 l0 x11_1).f1) 5), .int .u32 0] 109 (0, 0)) (by (with_reducible repeat (first | refine blk_drewN ?_ _ | refine blk_drew ?_ | refine blk_alloc ?_ _)); refine blk_far ?_ NB134_136.out _; (with_reducible repeat (first | refine blk_drewN ?_ _ | refine blk_drew ?_ | refine blk_alloc ?_ _)); refine blk_far ?_ NB134_136.out _; (with_reducible repeat (first | refine blk_drewN ?_ _ | refine blk_drew ?_ | refine blk_alloc ?_ _)); refine blk_far ?_ NB134_136.out _; (with_reducible repeat (first | refine blk_drewN ?_ _ | refine blk_drew ?_ | refine blk_alloc ?_ _)); refine blk_far ?_ NB134_136.out _; (with_reducible repeat (first | refine blk_drewN ?_ _ | refine blk_drew ?_ | refine blk_alloc ?_ _)); exact BK134.out) hb); replace BK136 := Aside0.mk (blk_below (g := gb136) (o := .cells #[.int .u32 ((rd_T109 x3_1 (ji28)).f0), .string ((rd_T109 x3_1 (ji28)).f1), .int .u8 ((rd_T109 x3_1 (ji28)).f2), .int .u32 ((rd_T109 x3_1 (ji28)).f3)] 109 (0, 0)) (by (with_reducible repeat (first | refine blk_drewN ?_ _ | refine blk_drew ?_ | refine blk_alloc ?_ _)); refine blk_put (cs := #[.int .u32 ((rd_T109 x3_1 (ji28)).f0), .string ((rd_T109 x3_1 (ji28)).f1), .int .u8 ((rd_T109 x3_1 (ji28)).f2), .int .u32 0]) ?_ 3 _ rfl; (with_reducible repeat (first | refine blk_drewN ?_ _ | refine blk_drew ?_ | refine blk_alloc ?_ _)); refine blk_put (cs := #[.int .u32 ((rd_T109 x3_1 (ji28)).f0), .string ((rd_T109 x3_1 (ji28)).f1), .int .u8 0, .int .u32 0]) ?_ 2 _ rfl; (with_reducible repeat (first | refine blk_drewN ?_ _ | refine blk_drew ?_ | refine blk_alloc ?_ _)); refine blk_put (cs := #[.int .u32 ((rd_T109 x3_1 (ji28)).f0), .string (⟨#[]⟩ : ByteArray), .int .u8 0, .int .u32 0]) ?_ 1 _ rfl; (with_reducible repeat (first | refine blk_drewN ?_ _ | refine blk_drew ?_ | refine blk_alloc ?_ _)); refine blk_put (cs := #[.int .u32 0, .string (⟨#[]⟩ : ByteArray), .int .u8 0, .int .u32 0]) ?_ 0 _ rfl; (with_reducible repeat (first | refine blk_drewN ?_ _ | refine blk_drew ?_ | refine blk_alloc ?_ _)); exact BK136.out) hb); replace HB := Aside0.mk (below_step bG hb); (try clear hb); (try clear hb2); (try clear hk); (try clear hi)))
               have n0_ := Aside0.mk (Kd.R_drew HO_3.out)
               have n1_ := Aside0.mk (blk_drew BK132.out)
               have n2_ := Aside0.mk (blk_drew BK134.out)
               have n3_ := Aside0.mk (blk_drew BK136.out)
               have n4_ := Aside0.mk (below_drew1 HB.out)
               clear HO_3
               clear BK132
               clear BK134
               clear BK136
               clear HB
               have HO_3 := n0_
               have BK132 := n1_
               have BK134 := n2_
               have BK136 := n3_
               have HB := n4_
               clear n0_ n1_ n2_ n3_ n4_
               refine start_ (n := 8) (S := fun w' => w'.cell? ⟨gb136, 0, none⟩ = some (.int .u32 ((rd_T109 x3_1 (ji28)).f0)) ∧ w'.cell? ⟨gb136, 1, none⟩ = some (.string ((rd_T109 x3_1 (ji28)).f1)) ∧ w'.cell? ⟨gb136, 2, none⟩ = some (.int .u8 ((rd_T109 x3_1 (ji28)).f2)) ∧ w'.cell? ⟨gb136, 3, none⟩ = some (.int .u32 ((rd_T109 x3_1 (ji28)).f3))) (ds := []) #[false, false, false, false, false, false, false, false] (by kernel_rfl) rfl rfl ⟨(blk_cell BK136.out 0).trans rfl, (blk_cell BK136.out 1).trans rfl, (blk_cell BK136.out 2).trans rfl, (blk_cell BK136.out 3).trans rfl⟩ (fun hHeld => ?_); refine with_tabW transposallaw06_Make.tab12 transposallaw06_Make.bits12 (fun HT_ HW_ => ?_)
               generalize w41.drew = w42 at HO_3 BK132 BK134 BK136 HB hHeld ⊢
               refine pure_ (i := 0) (N := some 56) (v := ?_) (a' := ?_) #[true, false, false, false, false, false, false, false] rfl rfl (any_of HT_.out (by kernel_rfl)) (fun _ _ _ h => h) (Or.inl ⟨by rfl, ?_⟩) ?_ ?_
               rotate_left
               ·intro w'
                go_simp
                with_reducible rfl
               rotate_left
               ·simp only [Act.put, List.setIfInBounds_toArray, List.set_cons_zero, List.set_cons_succ, i64_w, i32_w]
                rfl
               refine pure_ (i := 2) (N := some 58) (v := ?_) (a' := ?_) #[true, false, true, false, false, false, false, false] rfl rfl (any_of HT_.out (by kernel_rfl)) (fun _ _ _ h => h) (Or.inl ⟨by rfl, ?_⟩) ?_ ?_
               rotate_left
               ·intro w'
                go_simp
                with_reducible rfl
               rotate_left
               ·simp only [Act.put, List.setIfInBounds_toArray, List.set_cons_zero, List.set_cons_succ, i64_w, i32_w]
                rfl
               refine take_ (i := 1) (N := some 57) (v := ?_) (a' := ?_) #[true, true, true, false, false, false, false, false] rfl rfl (take_ofW HT_.out HW_.out (by kernel_rfl)) (fun _ _ _ h => h) (Or.inl ⟨by rfl, ?_⟩) hHeld ?_ ?_
               rotate_left
               ·rintro w' ⟨s0, s1, s2, s3⟩
                go_simp
                with_reducible rfl
               rotate_left
               ·simp only [Act.put, List.setIfInBounds_toArray, List.set_cons_zero, List.set_cons_succ, i64_w, i32_w]
                rfl
               refine pure_ (i := 4) (N := some 60) (v := ?_) (a' := ?_) #[true, true, true, false, true, false, false, false] rfl rfl (any_of HT_.out (by kernel_rfl)) (fun _ _ _ h => h) (Or.inl ⟨by rfl, ?_⟩) ?_ ?_
               rotate_left
               ·intro w'
                go_simp
                with_reducible rfl
               rotate_left
               ·simp only [Act.put, List.setIfInBounds_toArray, List.set_cons_zero, List.set_cons_succ, i64_w, i32_w]
                rfl
               refine take_ (i := 3) (N := some 59) (v := ?_) (a' := ?_) #[true, true, true, true, true, false, false, false] rfl rfl (take_ofW HT_.out HW_.out (by kernel_rfl)) (fun _ _ _ h => h) (Or.inl ⟨by rfl, ?_⟩) hHeld ?_ ?_
               rotate_left
               ·rintro w' ⟨s0, s1, s2, s3⟩
                go_simp
                with_reducible rfl
               rotate_left
               ·simp only [Act.put, List.setIfInBounds_toArray, List.set_cons_zero, List.set_cons_succ, i64_w, i32_w]
                rfl
               refine one_ (i := 5) (N := none) #[true, true, true, true, true, true, false, false] rfl rfl (one_of HT_.out (by kernel_rfl)) (by decide) (fun K hK => ?_)
               have hs43 : w42.cell? ⟨gb134, 3, none⟩ = some (.int .u32 0) := (blk_cell BK134.out 3).trans rfl
               have hfs43 := blk_frozen BK134.out 3
               have hns43_0 := NB132_134.out
               have hns43_2 := NB136_134.out
               have hms43_0 := NB134_132.out
               have hms43_2 := NB134_136.out
               refine skip_ (w1 := ?_) (by rfl) rfl ?_ ?_
               rotate_left
               ·go_simp
                rfl
               refine hK.out _ _ ⟨((cell_far (p := ⟨gb134, _, none⟩) NB136_134.out _).trans (hHeld.1)), ((cell_far (p := ⟨gb134, _, none⟩) NB136_134.out _).trans (hHeld.2.1)), ((cell_far (p := ⟨gb134, _, none⟩) NB136_134.out _).trans (hHeld.2.2.1)), ((cell_far (p := ⟨gb134, _, none⟩) NB136_134.out _).trans (hHeld.2.2.2))⟩ (fun hHeld => ?_)
               clear hK K
               refine pure_ (i := 6) (N := some 61) (v := ?_) (a' := ?_) #[true, true, true, true, true, true, true, false] rfl rfl (any_of HT_.out (by kernel_rfl)) (fun _ _ _ h => h) (Or.inl ⟨by rfl, ?_⟩) ?_ ?_
               rotate_left
               ·intro w'
                go_simp
                with_reducible rfl
               rotate_left
               ·simp only [Act.put, List.setIfInBounds_toArray, List.set_cons_zero, List.set_cons_succ, i64_w, i32_w]
                rfl
               refine one_ (i := 7) (N := none) #[true, true, true, true, true, true, true, true] rfl rfl (one_of HT_.out (by kernel_rfl)) (by decide) (fun K hK => ?_)
               have hs44 : w42.cell? ⟨gb134, 2, none⟩ = some (.int .u8 (Int.tmod ((rd_T139 l0 x11_1).f1) 5)) := (blk_cell BK134.out 2).trans rfl
               have hfs44 := blk_frozen BK134.out 2
               have hns44_0 := NB132_134.out
               have hns44_2 := NB136_134.out
               have hms44_0 := NB134_132.out
               have hms44_2 := NB134_136.out
               refine skip_ (w1 := ?_) (by rfl) rfl ?_ ?_
               rotate_left
               ·go_simp
                rfl
               refine hK.out _ _ ⟨((cell_far (p := ⟨gb134, _, none⟩) NB136_134.out _).trans (hHeld.1)), ((cell_far (p := ⟨gb134, _, none⟩) NB136_134.out _).trans (hHeld.2.1)), ((cell_far (p := ⟨gb134, _, none⟩) NB136_134.out _).trans (hHeld.2.2.1)), ((cell_far (p := ⟨gb134, _, none⟩) NB136_134.out _).trans (hHeld.2.2.2))⟩ (fun hHeld => ?_)
               clear hK K
               refine done_ (done_of HT_.out (by kernel_rfl)) ?_
               obtain ⟨hcz45_0, hcz45_1, hcz45_2, hcz45_3, hfz45_0, hfz45_1, hfz45_2, hfz45_3⟩ := cl4 BK134.out
               try go_wp2_with (first | ((with_reducible refine gate_builtin (b := .append) (xs := #[.tmp 62, .tmp 64]) rfl ?_); at_builtin; refine Kd.R_append k109 (w0 := w) w.heap.size rfl (.tmp 62) (.tmp 64) 61 109 (.agg #[(.int .u32 0), (.string ⟨#[]⟩), (.int .u8 0), (.int .u32 0)]) 32 rfl Tryz.underlying61 info109 rfl (by decide) (by omega) (.slice (some ad135) x3_1.length co36) x3_1 (⟨((x4_1 + (1 + (Int.tmod ((rd_T139 l0 x11_1).f0) 4))) % 4294967296), t133, (rd_T109 x3_1 (ji28)).f2, (rd_T109 x3_1 (ji28)).f0⟩ : S109) [.int .u32 ((x4_1 + (1 + (Int.tmod ((rd_T139 l0 x11_1).f0) 4))) % 4294967296), .string t133, .int .u8 ((rd_T109 x3_1 (ji28)).f2), .int .u32 ((rd_T109 x3_1 (ji28)).f0)] (fun k_ => k_ ≠ gb134 ∧ k_ ≠ gb136) (fun _ => False) rfl (by first | (go_simp; done) | (go_simp; rfl)) ?aP (fun _ hk => hk.elim) ?aF ?aO ?aB ?aS ?aL ?_; (case aP => exact k109_mkM _ _ _ (⟨((x4_1 + (1 + (Int.tmod ((rd_T139 l0 x11_1).f0) 4))) % 4294967296), t133, (rd_T109 x3_1 (ji28)).f2, (rd_T109 x3_1 (ji28)).f0⟩ : S109)); (case aB => exact bG); (case aF => exact (fun k_ hk => ⟨Kd.freshB (g := gb134) (o := .cells #[.int .u32 ((x4_1 + (1 + (Int.tmod ((rd_T139 l0 x11_1).f0) 4))) % 4294967296), .string t133, .int .u8 ((rd_T109 x3_1 (ji28)).f2), .int .u32 ((rd_T109 x3_1 (ji28)).f0)] 109 (0, 0)) (by (with_reducible repeat (first | refine blk_drewN ?_ _ | refine blk_drew ?_ | refine blk_alloc ?_ _)); refine blk_put (cs := #[.int .u32 ((x4_1 + (1 + (Int.tmod ((rd_T139 l0 x11_1).f0) 4))) % 4294967296), .string t133, .int .u8 (Int.tmod ((rd_T139 l0 x11_1).f1) 5), .int .u32 ((rd_T109 x3_1 (ji28)).f0)]) ?_ 2 _ rfl; (with_reducible repeat (first | refine blk_drewN ?_ _ | refine blk_drew ?_ | refine blk_alloc ?_ _)); refine blk_put (cs := #[.int .u32 ((x4_1 + (1 + (Int.tmod ((rd_T139 l0 x11_1).f0) 4))) % 4294967296), .string t133, .int .u8 (Int.tmod ((rd_T139 l0 x11_1).f1) 5), .int .u32 0]) ?_ 3 _ rfl; (with_reducible repeat (first | refine blk_drewN ?_ _ | refine blk_drew ?_ | refine blk_alloc ?_ _)); exact BK134.out) k_ hk, Kd.freshB (g := gb136) (o := .cells #[.int .u32 ((rd_T109 x3_1 (ji28)).f0), .string ((rd_T109 x3_1 (ji28)).f1), .int .u8 ((rd_T109 x3_1 (ji28)).f2), .int .u32 ((rd_T109 x3_1 (ji28)).f3)] 109 (0, 0)) (by (with_reducible repeat (first | refine blk_drewN ?_ _ | refine blk_drew ?_ | refine blk_alloc ?_ _)); refine blk_far ?_ NB136_134.out _; (with_reducible repeat (first | refine blk_drewN ?_ _ | refine blk_drew ?_ | refine blk_alloc ?_ _)); refine blk_far ?_ NB136_134.out _; (with_reducible repeat (first | refine blk_drewN ?_ _ | refine blk_drew ?_ | refine blk_alloc ?_ _)); exact BK136.out) k_ hk⟩)); (case aO => exact (by (with_reducible repeat (first | apply Kd.R_alloc | apply Kd.R_drewN | apply Kd.R_drew)); exact Kd.R_mono (Kd.R_far (p := ⟨gb134, 2, none⟩) (Kd.R_far (p := ⟨gb134, 3, none⟩) (Kd.R_mono HO_3.out (fun k_ hk => (⟨hk, hk.1⟩ : _ ∧ k_ ≠ gb134))) (fun _ hk => hk.2) (.int .u32 ((rd_T109 x3_1 (ji28)).f0))) (fun _ hk => hk.2) (.int .u8 ((rd_T109 x3_1 (ji28)).f2))) (fun _ hk => ⟨hk.1.1, hk.1.2⟩))); (case aS => exact (below_size bG)); (case aL => have := LMc33.out; omega); intro v139 w46 ho hb hg hat; rw [← Ny138.out] at ho; replace BK132 := Aside0.mk (blk_grown (g := gb132) (o := .cells #[.int .u8 ((rd_T139 l0 x11_1).f0), .int .u8 ((rd_T139 l0 x11_1).f1), .int .u8 ((rd_T139 l0 x11_1).f2), .int .u8 ((rd_T139 l0 x11_1).f3)] 139 (0, 0)) (by (with_reducible repeat (first | refine blk_drewN ?_ _ | refine blk_drew ?_ | refine blk_alloc ?_ _)); refine blk_far ?_ NB132_134.out _; (with_reducible repeat (first | refine blk_drewN ?_ _ | refine blk_drew ?_ | refine blk_alloc ?_ _)); refine blk_far ?_ NB132_134.out _; (with_reducible repeat (first | refine blk_drewN ?_ _ | refine blk_drew ?_ | refine blk_alloc ?_ _)); exact BK132.out) hg (Kd.R_ne HO_3.out BK132.out (by decide))); replace BK134 := Aside0.mk (blk_grown (g := gb134) (o := .cells #[.int .u32 ((x4_1 + (1 + (Int.tmod ((rd_T139 l0 x11_1).f0) 4))) % 4294967296), .string t133, .int .u8 ((rd_T109 x3_1 (ji28)).f2), .int .u32 ((rd_T109 x3_1 (ji28)).f0)] 109 (0, 0)) (by (with_reducible repeat (first | refine blk_drewN ?_ _ | refine blk_drew ?_ | refine blk_alloc ?_ _)); refine blk_put (cs := #[.int .u32 ((x4_1 + (1 + (Int.tmod ((rd_T139 l0 x11_1).f0) 4))) % 4294967296), .string t133, .int .u8 (Int.tmod ((rd_T139 l0 x11_1).f1) 5), .int .u32 ((rd_T109 x3_1 (ji28)).f0)]) ?_ 2 _ rfl; (with_reducible repeat (first | refine blk_drewN ?_ _ | refine blk_drew ?_ | refine blk_alloc ?_ _)); refine blk_put (cs := #[.int .u32 ((x4_1 + (1 + (Int.tmod ((rd_T139 l0 x11_1).f0) 4))) % 4294967296), .string t133, .int .u8 (Int.tmod ((rd_T139 l0 x11_1).f1) 5), .int .u32 0]) ?_ 3 _ rfl; (with_reducible repeat (first | refine blk_drewN ?_ _ | refine blk_drew ?_ | refine blk_alloc ?_ _)); exact BK134.out) hg (Kd.R_away HO_3.out (fun _ hk => hk.1))); replace BK136 := Aside0.mk (blk_grown (g := gb136) (o := .cells #[.int .u32 ((rd_T109 x3_1 (ji28)).f0), .string ((rd_T109 x3_1 (ji28)).f1), .int .u8 ((rd_T109 x3_1 (ji28)).f2), .int .u32 ((rd_T109 x3_1 (ji28)).f3)] 109 (0, 0)) (by (with_reducible repeat (first | refine blk_drewN ?_ _ | refine blk_drew ?_ | refine blk_alloc ?_ _)); refine blk_far ?_ NB136_134.out _; (with_reducible repeat (first | refine blk_drewN ?_ _ | refine blk_drew ?_ | refine blk_alloc ?_ _)); refine blk_far ?_ NB136_134.out _; (with_reducible repeat (first | refine blk_drewN ?_ _ | refine blk_drew ?_ | refine blk_alloc ?_ _)); exact BK136.out) hg (Kd.R_away HO_3.out (fun _ hk => hk.2))); replace HB := Aside0.mk (hb); replace HO140 := Aside0.mk (ho); clear ho hb hg hat))
               go_roundg kj8
               case measure => have := HK1.out; have := HJ8.out; omega
               case rel => exact ⟨(y138), (((x4_1 + (1 + (Int.tmod ((rd_T139 l0 x11_1).f0) 4))) % 4294967296)), (wrap64 (x11_1 + 1)), eS, eS, H', ⟨by have := HK1.out; have := HJ8.out; omega⟩, ⟨by (with_reducible repeat (first | apply Kd.R_alloc | apply Kd.R_drewN | apply Kd.R_drew)); exact Kd.R_mono HO140.out (fun _ hk => trivial)⟩, ⟨bG⟩⟩
              ·rw [if_neg c33] at H
               exact absurd H (by simp)
             ·rw [if_neg c32] at H
              have c32b0 : decide (t137 < 11) = false := decide_eq_false c32
              clear c32
              by_cases c47 : x3_1.length < 4398046511104
              ·rw [if_pos c47] at H
               have LMc47 := Aside0.mk c47
               clear c47
               obtain ⟨y141, hy141⟩ : ∃ y_ : List (S109), y_ = (x3_1 ++ [(⟨((x4_1 + (1 + (Int.tmod ((rd_T139 l0 x11_1).f0) 4))) % 4294967296), t133, (Int.tmod ((rd_T139 l0 x11_1).f1) 5), 0⟩ : S109)]) := ⟨_, rfl⟩
               replace H : (transposallaw06_Make.l0 kj8 y141 ((x4_1 + (1 + (Int.tmod ((rd_T139 l0 x11_1).f0) 4))) % 4294967296) l0 (l0.length : Int) (wrap64 (x11_1 + 1))) = some r := by first | (rw [hy141]; with_reducible exact H) | (have H2_ := (Option.bind_some _ _).symm.trans H; rw [hy141]; with_reducible exact H2_) | (have H2_ := (Option.bind_some _ _).symm.trans H; with_reducible exact H2_) | with_reducible exact H | (rw [hy141]; exact H) | exact H
               have Ny141 := Aside0.mk hy141
               clear hy141
               have H' := Aside0.mk H
               clear H
               have hnb48 := NB132_134.out
               have hnc48 := NB134_132.out
               obtain ⟨hcz49_0, hcz49_1, hcz49_2, hcz49_3, hfz49_0, hfz49_1, hfz49_2, hfz49_3⟩ := cl4 BK132.out
               obtain ⟨Ao50, co50, eo50⟩ := Kd.R_slice HO_3.out
               subst eo50
               have p135 : 0 ≤ ((ji28) : Int) := of_decide_eq_true aS
               have q135 : (ji28) < (x3_1.length : Int) := of_decide_eq_true aS
               obtain ⟨ad135, e135, hx135_0, hx135_1, hx135_2, hx135_3⟩ := at_T109 (Kd.R_reads' HO_3.out).2.2 (ji28) p135 q135
               cases e135
               replace p135 := eq_true p135
               replace q135 := eq_true q135
               go_wp2_with (first | ((with_reducible refine gate_dst (N := 8) rfl ?_); refine box_event ?hg (N := 8) ?hd (cs := #[.int .u32 0, .string (⟨#[]⟩ : ByteArray), .int .u8 0, .int .u32 0]) (t := 109) ?hr ?_; (case hd => rfl); (case hg => rfl); (case hr => first | (go_simp; done) | (go_simp; rfl)); intro gb136 hg w51 hbox hb; have n0_ := Aside0.mk (Kd.R_below (Kd.R_elderB (Kd.R_below HO_3.out oN) gb136 (Nat.le_of_eq hg.symm)) hb); have n1_ := Aside0.mk (blk_below (blk_below BK132.out oN) hb); have n2_ := Aside0.mk (blk_below (blk_below BK134.out oN) hb); have n3_ := Aside0.mk (below_step bG hb); have n4_ := Aside0.mk (hbox); have n5_ := Aside0.mk ((by rw [hg]; exact (below_size bG) : w.heap.size ≤ gb136)); have n6_ := Aside0.mk ((by rw [hg]; exact (below_size bG) : w.heap.size ≤ gb136)); have n7_ := Aside0.mk ((by rw [hg]; exact Nat.ne_of_lt (blk_lt (g := gb132) (o := .cells #[.int .u8 ((rd_T139 l0 x11_1).f0), .int .u8 ((rd_T139 l0 x11_1).f1), .int .u8 ((rd_T139 l0 x11_1).f2), .int .u8 ((rd_T139 l0 x11_1).f3)] 139 (0, 0)) (blk_below BK132.out oN)) : gb132 ≠ gb136)); have n8_ := Aside0.mk ((by rw [hg]; exact Nat.ne_of_gt (blk_lt (g := gb132) (o := .cells #[.int .u8 ((rd_T139 l0 x11_1).f0), .int .u8 ((rd_T139 l0 x11_1).f1), .int .u8 ((rd_T139 l0 x11_1).f2), .int .u8 ((rd_T139 l0 x11_1).f3)] 139 (0, 0)) (blk_below BK132.out oN)) : gb136 ≠ gb132)); have n9_ := Aside0.mk ((by rw [hg]; exact Nat.ne_of_lt (blk_lt (g := gb134) (o := .cells #[.int .u32 ((x4_1 + (1 + (Int.tmod ((rd_T139 l0 x11_1).f0) 4))) % 4294967296), .string t133, .int .u8 (Int.tmod ((rd_T139 l0 x11_1).f1) 5), .int .u32 0] 109 (0, 0)) (blk_below BK134.out oN)) : gb134 ≠ gb136)); have n10_ := Aside0.mk ((by rw [hg]; exact Nat.ne_of_gt (blk_lt (g := gb134) (o := .cells #[.int .u32 ((x4_1 + (1 + (Int.tmod ((rd_T139 l0 x11_1).f0) 4))) % 4294967296), .string t133, .int .u8 (Int.tmod ((rd_T139 l0 x11_1).f1) 5), .int .u32 0] 109 (0, 0)) (blk_below BK134.out oN)) : gb136 ≠ gb134)); clear HO_3; clear BK132; clear BK134; clear HB; have HO_3 := n0_; have BK132 := n1_; have BK134 := n2_; have HB := n3_; have BK136 := n4_; have GW136 := n5_; have GE136 := n6_; have NB132_136 := n7_; have NB136_132 := n8_; have NB134_136 := n9_; have NB136_134 := n10_; clear n0_ n1_ n2_ n3_ n4_ n5_ n6_ n7_ n8_ n9_ n10_; clear hb hbox hg; have hnb52 := NB136_132.out; have hnc52 := NB132_136.out; have hnb53 := NB136_134.out; have hnc53 := NB134_136.out; obtain ⟨hcz54_0, hcz54_1, hcz54_2, hcz54_3, hfz54_0, hfz54_1, hfz54_2, hfz54_3⟩ := cl4 BK136.out) | ((with_reducible refine gate_callee (f := 69) rfl ?_); refine goesL_ (some 54) rfl rfl Tryz.func69 (by kernel_rfl) rfl #[.slice (some ad135) x3_1.length co50, .int .u32 ((rd_T109 x3_1 (ji28)).f0)] rfl (by (try simp only [List.map_toArray, List.map_cons, List.map_nil]); first | done | (simp only [hji28]; rfl) | rfl | (simp only [List.length_drop, List.length_take]; rfl)) ?_; (with_reducible refine (transposallaw06_deep.calls kj8 _ _ x3_1 ((rd_T109 x3_1 (ji28)).f0) t137 _ ?side1 ?side2 A31.out).mono ?_); (case side1 => refine (Kd.R_reads' (e := 109) (base := w.heap.size) (ok := fun k_ => (k_ ≠ gb134 ∧ k_ ≠ gb136)) (n := x3_1.length) (c := co50) ?_).2.2; exact (by (with_reducible repeat (first | apply Kd.R_alloc | apply Kd.R_drewN | apply Kd.R_drew)); exact (Kd.R_mono (Kd.R_far (p := ⟨gb136, 3, none⟩) (Kd.R_far (p := ⟨gb136, 2, none⟩) (Kd.R_far (p := ⟨gb136, 1, none⟩) (Kd.R_far (p := ⟨gb136, 0, none⟩) (Kd.R_mono HO_3.out (fun k_ hk => (⟨hk, hk.2⟩ : _ ∧ k_ ≠ gb136))) (fun _ hk => hk.2) (.int .u32 ((rd_T109 x3_1 (ji28)).f0))) (fun _ hk => hk.2) (.string ((rd_T109 x3_1 (ji28)).f1))) (fun _ hk => hk.2) (.int .u8 ((rd_T109 x3_1 (ji28)).f2))) (fun _ hk => hk.2) (.int .u32 ((rd_T109 x3_1 (ji28)).f3))) (fun _ h_ => h_.1)))); (case side2 => exact (Kd.R_reads' HO_3.out).2.1); rintro e w55 ⟨rfl, hb⟩; refine ⟨_, rfl, ?_⟩; replace HO_3 := Aside0.mk (Kd.R_below (by (with_reducible repeat (first | apply Kd.R_alloc | apply Kd.R_drewN | apply Kd.R_drew)); exact (Kd.R_mono (Kd.R_far (p := ⟨gb136, 3, none⟩) (Kd.R_far (p := ⟨gb136, 2, none⟩) (Kd.R_far (p := ⟨gb136, 1, none⟩) (Kd.R_far (p := ⟨gb136, 0, none⟩) (Kd.R_mono HO_3.out (fun k_ hk => (⟨hk, hk.2⟩ : _ ∧ k_ ≠ gb136))) (fun _ hk => hk.2) (.int .u32 ((rd_T109 x3_1 (ji28)).f0))) (fun _ hk => hk.2) (.string ((rd_T109 x3_1 (ji28)).f1))) (fun _ hk => hk.2) (.int .u8 ((rd_T109 x3_1 (ji28)).f2))) (fun _ hk => hk.2) (.int .u32 ((rd_T109 x3_1 (ji28)).f3))) (fun _ h_ => h_.1))) hb); replace BK132 := Aside0.mk (blk_below (g := gb132) (o := .cells #[.int .u8 ((rd_T139 l0 x11_1).f0), .int .u8 ((rd_T139 l0 x11_1).f1), .int .u8 ((rd_T139 l0 x11_1).f2), .int .u8 ((rd_T139 l0 x11_1).f3)] 139 (0, 0)) (by (with_reducible repeat (first | refine blk_drewN ?_ _ | refine blk_drew ?_ | refine blk_alloc ?_ _)); refine blk_far ?_ NB132_136.out _; (with_reducible repeat (first | refine blk_drewN ?_ _ | refine blk_drew ?_ | refine blk_alloc ?_ _)); refine blk_far ?_ NB132_136.out _; (with_reducible repeat (first | refine blk_drewN ?_ _ | refine blk_drew ?_ | refine blk_alloc ?_ _)); refine blk_far ?_ NB132_136.out _; (with_reducible repeat (first | refine blk_drewN ?_ _ | refine blk_drew ?_ | refine blk_alloc ?_ _)); refine blk_far ?_ NB132_136.out _; (with_reducible repeat (first | refine blk_drewN ?_ _ | refine blk_drew ?_ | refine blk_alloc ?_ _)); exact BK132.out) hb); replace BK134 := Aside0.mk (blk_below (g := gb134) (o := .cells #[.int .u32 ((x4_1 + (1 + (Int.tmod ((rd_T139 l0 x11_1).f0) 4))) % 4294967296), .string t133, .int .u8 (Int.tmod ((rd_T139 l0 x11_1).f1) 5), .int .u32 0] 109 (0, 0)) (by (with_reducible repeat (first | refine blk_drewN ?_ _ | refine blk_drew ?_ | refine blk_alloc ?_ _)); refine blk_far ?_ NB134_136.out _; (with_reducible repeat (first | refine blk_drewN ?_ _ | refine blk_drew ?_ | refine blk_alloc ?_ _)); refine blk_far ?_ NB134_136.out _; (with_reducible repeat (first | refine blk_drewN ?_ _ | refine blk_drew ?_ | refine blk_alloc ?_ _)); refine blk_far ?_ NB134_136.out _; (with_reducible repeat (first | refine blk_drewN ?_ _ | refine blk_drew ?_ | refine blk_alloc ?_ _)); refine blk_far ?_ NB134_136.out _; (with_reducible repeat (first | refine blk_drewN ?_ _ | refine blk_drew ?_ | refine blk_alloc ?_ _)); exact BK134.out) hb); replace BK136 := Aside0.mk (blk_below (g := gb136) (o := .cells #[.int .u32 ((rd_T109 x3_1 (ji28)).f0), .string ((rd_T109 x3_1 (ji28)).f1), .int .u8 ((rd_T109 x3_1 (ji28)).f2), .int .u32 ((rd_T109 x3_1 (ji28)).f3)] 109 (0, 0)) (by (with_reducible repeat (first | refine blk_drewN ?_ _ | refine blk_drew ?_ | refine blk_alloc ?_ _)); refine blk_put (cs := #[.int .u32 ((rd_T109 x3_1 (ji28)).f0), .string ((rd_T109 x3_1 (ji28)).f1), .int .u8 ((rd_T109 x3_1 (ji28)).f2), .int .u32 0]) ?_ 3 _ rfl; (with_reducible repeat (first | refine blk_drewN ?_ _ | refine blk_drew ?_ | refine blk_alloc ?_ _)); refine blk_put (cs := #[.int .u32 ((rd_T109 x3_1 (ji28)).f0), .string ((rd_T109 x3_1 (ji28)).f1), .int .u8 0, .int .u32 0]) ?_ 2 _ rfl; (with_reducible repeat (first | refine blk_drewN ?_ _ | refine blk_drew ?_ | refine blk_alloc ?_ _)); refine blk_put (cs := #[.int .u32 ((rd_T109 x3_1 (ji28)).f0), .string (⟨#[]⟩ : ByteArray), .int .u8 0, .int .u32 0]) ?_ 1 _ rfl; (with_reducible repeat (first | refine blk_drewN ?_ _ | refine blk_drew ?_ | refine blk_alloc ?_ _)); refine blk_put (cs := #[.int .u32 0, .string (⟨#[]⟩ : ByteArray), .int .u8 0, .int .u32 0]) ?_ 0 _ rfl; (with_reducible repeat (first | refine blk_drewN ?_ _ | refine blk_drew ?_ | refine blk_alloc ?_ _)); exact BK136.out) hb); replace HB := Aside0.mk (below_step bG hb); (try clear hb); (try clear hb2); (try clear hk); (try clear hi); obtain ⟨hcz56_0, hcz56_1, hcz56_2, hcz56_3, hfz56_0, hfz56_1, hfz56_2, hfz56_3⟩ := cl4 BK134.out) | ((with_reducible refine gate_builtin (b := .append) (xs := #[.tmp 62, .tmp 64]) rfl ?_); at_builtin; refine Kd.R_append k109 (w0 := w) w.heap.size rfl (.tmp 62) (.tmp 64) 61 109 (.agg #[(.int .u32 0), (.string ⟨#[]⟩), (.int .u8 0), (.int .u32 0)]) 32 rfl Tryz.underlying61 info109 rfl (by decide) (by omega) (.slice (some ad135) x3_1.length co50) x3_1 (⟨((x4_1 + (1 + (Int.tmod ((rd_T139 l0 x11_1).f0) 4))) % 4294967296), t133, (Int.tmod ((rd_T139 l0 x11_1).f1) 5), 0⟩ : S109) [.int .u32 ((x4_1 + (1 + (Int.tmod ((rd_T139 l0 x11_1).f0) 4))) % 4294967296), .string t133, .int .u8 (Int.tmod ((rd_T139 l0 x11_1).f1) 5), .int .u32 0] (fun k_ => k_ ≠ gb134 ∧ k_ ≠ gb136) (fun _ => False) rfl rfl ?aP (fun _ hk => hk.elim) ?aF ?aO ?aB ?aS ?aL ?_; (case aP => exact k109_mkM _ _ _ (⟨((x4_1 + (1 + (Int.tmod ((rd_T139 l0 x11_1).f0) 4))) % 4294967296), t133, (Int.tmod ((rd_T139 l0 x11_1).f1) 5), 0⟩ : S109)); (case aB => exact bG); (case aF => exact (fun k_ hk => ⟨Kd.freshB (blk_below BK134.out oN) k_ hk, Kd.freshB (blk_below BK136.out oN) k_ hk⟩)); (case aO => exact (Kd.R_below HO_3.out oN)); (case aS => exact (below_size bG)); (case aL => have := LMc47.out; omega); intro v142 w57 ho hb hg hat; rw [← Ny141.out] at ho; replace BK132 := Aside0.mk (blk_grown (blk_below BK132.out oN) hg (Kd.R_ne HO_3.out BK132.out (by decide))); replace BK134 := Aside0.mk (blk_grown (blk_below BK134.out oN) hg (Kd.R_away HO_3.out (fun _ hk => hk.1))); replace BK136 := Aside0.mk (blk_grown (blk_below BK136.out oN) hg (Kd.R_away HO_3.out (fun _ hk => hk.2))); replace HB := Aside0.mk (hb); replace HO143 := Aside0.mk (ho); clear ho hb hg hat))
               go_roundg kj8
               case measure => have := HK1.out; have := HJ8.out; omega
               case rel => exact ⟨(y141), (((x4_1 + (1 + (Int.tmod ((rd_T139 l0 x11_1).f0) 4))) % 4294967296)), (wrap64 (x11_1 + 1)), eS, eS, H', ⟨by have := HK1.out; have := HJ8.out; omega⟩, ⟨by (with_reducible repeat (first | apply Kd.R_alloc | apply Kd.R_drewN | apply Kd.R_drew)); exact Kd.R_mono HO143.out (fun _ hk => trivial)⟩, ⟨bG⟩⟩
              ·rw [if_neg c47] at H
               exact absurd H (by simp)
            ·rw [if_neg c30] at H
             exact absurd H (by simp)
           ·rw [if_neg c29] at H
            exact absurd H (by simp)
         ·replace c26 := Bool.eq_false_iff.mpr c26
          subst c26
          have H1 : (if x3_1.length < 4398046511104 then (transposallaw06_Make.l0 kj8 (x3_1 ++ [(⟨((x4_1 + (1 + (Int.tmod ((rd_T139 l0 x11_1).f0) 4))) % 4294967296), t133, (Int.tmod ((rd_T139 l0 x11_1).f1) 5), 0⟩ : S109)]) ((x4_1 + (1 + (Int.tmod ((rd_T139 l0 x11_1).f0) 4))) % 4294967296) l0 (l0.length : Int) (wrap64 (x11_1 + 1))) else (none)) = some r := by rw [if_neg (show ¬ (false = true) by decide)] at H; exact H
          clear H
          have H := H1
          clear H1
          by_cases c58 : x3_1.length < 4398046511104
          ·rw [if_pos c58] at H
           have LMc58 := Aside0.mk c58
           clear c58
           obtain ⟨y144, hy144⟩ : ∃ y_ : List (S109), y_ = (x3_1 ++ [(⟨((x4_1 + (1 + (Int.tmod ((rd_T139 l0 x11_1).f0) 4))) % 4294967296), t133, (Int.tmod ((rd_T139 l0 x11_1).f1) 5), 0⟩ : S109)]) := ⟨_, rfl⟩
           replace H : (transposallaw06_Make.l0 kj8 y144 ((x4_1 + (1 + (Int.tmod ((rd_T139 l0 x11_1).f0) 4))) % 4294967296) l0 (l0.length : Int) (wrap64 (x11_1 + 1))) = some r := by first | (rw [hy144]; with_reducible exact H) | (have H2_ := (Option.bind_some _ _).symm.trans H; rw [hy144]; with_reducible exact H2_) | (have H2_ := (Option.bind_some _ _).symm.trans H; with_reducible exact H2_) | with_reducible exact H | (rw [hy144]; exact H) | exact H
           have Ny144 := Aside0.mk hy144
           clear hy144
           have H' := Aside0.mk H
           clear H
           have hnb59 := NB134_132.out
           have hnc59 := NB132_134.out
           obtain ⟨hcz60_0, hcz60_1, hcz60_2, hcz60_3, hfz60_0, hfz60_1, hfz60_2, hfz60_3⟩ := cl4 BK134.out
           go_wp2_with (first | ((with_reducible refine gate_builtin (b := .append) (xs := #[.tmp 62, .tmp 64]) rfl ?_); at_builtin; refine Kd.R_append k109 (w0 := w) w.heap.size rfl (.tmp 62) (.tmp 64) 61 109 (.agg #[(.int .u32 0), (.string ⟨#[]⟩), (.int .u8 0), (.int .u32 0)]) 32 rfl Tryz.underlying61 info109 rfl (by decide) (by omega) u3 x3_1 (⟨((x4_1 + (1 + (Int.tmod ((rd_T139 l0 x11_1).f0) 4))) % 4294967296), t133, (Int.tmod ((rd_T139 l0 x11_1).f1) 5), 0⟩ : S109) [.int .u32 ((x4_1 + (1 + (Int.tmod ((rd_T139 l0 x11_1).f0) 4))) % 4294967296), .string t133, .int .u8 (Int.tmod ((rd_T139 l0 x11_1).f1) 5), .int .u32 0] (fun k_ => k_ ≠ gb134) (fun _ => False) rfl rfl ?aP (fun _ hk => hk.elim) ?aF ?aO ?aB ?aS ?aL ?_; (case aP => exact k109_mkM _ _ _ (⟨((x4_1 + (1 + (Int.tmod ((rd_T139 l0 x11_1).f0) 4))) % 4294967296), t133, (Int.tmod ((rd_T139 l0 x11_1).f1) 5), 0⟩ : S109)); (case aB => exact bG); (case aF => exact (fun k_ hk => Kd.freshB (blk_below BK134.out oN) k_ hk)); (case aO => exact (Kd.R_below HO_3.out oN)); (case aS => exact (below_size bG)); (case aL => have := LMc58.out; omega); intro v145 w61 ho hb hg hat; rw [← Ny144.out] at ho; replace BK132 := Aside0.mk (blk_grown (blk_below BK132.out oN) hg (Kd.R_ne HO_3.out BK132.out (by decide))); replace BK134 := Aside0.mk (blk_grown (blk_below BK134.out oN) hg (Kd.R_away HO_3.out (fun _ hk => hk))); replace HB := Aside0.mk (hb); replace HO146 := Aside0.mk (ho); clear ho hb hg hat))
           go_roundg kj8
           case measure => have := HK1.out; have := HJ8.out; omega
           case rel => exact ⟨(y144), (((x4_1 + (1 + (Int.tmod ((rd_T139 l0 x11_1).f0) 4))) % 4294967296)), (wrap64 (x11_1 + 1)), eS, eS, H', ⟨by have := HK1.out; have := HJ8.out; omega⟩, ⟨by (with_reducible repeat (first | apply Kd.R_alloc | apply Kd.R_drewN | apply Kd.R_drew)); exact Kd.R_mono HO146.out (fun _ hk => trivial)⟩, ⟨bG⟩⟩
          ·rw [if_neg c58] at H
           exact absurd H (by simp)
     ·rw [if_neg c4] at H
      exact absurd H (by simp)
    ·rw [if_neg c3] at H
     exact absurd H (by simp)
   ·rw [if_neg c2] at H
    have c2b0 : decide (x11_1 < (l0.length : Int)) = false := decide_eq_false c2
    clear c2
    obtain rfl := Option.some.inj H
    go_wp2
    go_ret
    exact ⟨_, eR, by (with_reducible repeat (first | apply Kd.R_alloc | apply Kd.R_drewN | apply Kd.R_drew)); exact HO_3.out, bB⟩

/-! ### unit_Units_uint16_96: function 96 -/
def unit_Units_uint16_96.l0 : Nat → List Int → Int → Int → Int → Option (Int)
 | 0, _, _, _, _ => none
 | k + 1, x0, x1, x7, x8 => if x8 < x7 then (if 0 ≤ x8 then (if x8 < (x0.length : Int) then (if x1 = (rd x0 x8) then (some x8) else (unit_Units_uint16_96.l0 k x0 x1 x7 (wrap64 (x8 + 1)))) else (none)) else (none)) else (some (-1))
def unit_Units_uint16_96.f (k : Nat) (l0 : List Int) (a1 : Int) : Option (Int) := unit_Units_uint16_96.l0 k l0 a1 (l0.length : Int) 0
theorem unit_Units_uint16_96.mono_l : ∀ k, (∀ y0 y1 y2 y3, LeO (unit_Units_uint16_96.l0 k y0 y1 y2 y3) (unit_Units_uint16_96.l0 (k + 1) y0 y1 y2 y3))
 | 0 => fun _ _ _ _ r h => by simp [unit_Units_uint16_96.l0] at h
 | k + 1 => by
  have ih0 := unit_Units_uint16_96.mono_l k
  ·intro y0 y1 y2 y3
   unfold unit_Units_uint16_96.l0
   repeat' (with_reducible first | apply ih0 | apply LeO.refl | apply LeO.none | refine LeO.ite ?_ ?_ | refine LeO.bind ?_ (fun _ => ?_))
theorem unit_Units_uint16_96.mono : ∀ a0 a1 k, LeO (unit_Units_uint16_96.f k a0 a1) (unit_Units_uint16_96.f (k + 1) a0 a1) := by
 intro a0 a1 k
 have ih0 := unit_Units_uint16_96.mono_l k
 unfold unit_Units_uint16_96.f
 repeat' (with_reducible first | apply ih0 | apply LeO.refl | apply LeO.none | refine LeO.ite ?_ ?_ | refine LeO.bind ?_ (fun _ => ?_))
set_option maxHeartbeats 8000000 in
set_option maxRecDepth 100000 in
theorem unit_Units_uint16_96.calls (k : Nat) (A0 : Option Addr) (c0 : Nat) (l0 : List Int) (a1 : Int) (r : Int) (w : World) (hr0 : Kd.C (Kd.int .u16) w A0 l0.length l0) (hc0 : l0.length ≤ c0) (h : unit_Units_uint16_96.f k l0 a1 = some r) :
  Calls Tryz.prog 96 #[.slice A0 l0.length c0, .int .u16 a1] w fun e w' => e = .returned (.int .i64 r) ∧ Drawn0 w w' := by
 have HR0 := Aside0.mk hr0
 have HC0 := Aside0.mk hc0
 clear hr0 hc0
 have H : (unit_Units_uint16_96.l0 k l0 a1 (l0.length : Int) 0) = some r := h
 clear h
 have H' := Aside0.mk H
 clear H
 go_enter Tryz.func96, Tryz.ntmps96
 go_wp2
 go_loopg [8] k (fun kq v8 w' => ∃ (x8_1 : Int), v8 = .int .i64 x8_1 ∧ Aside0 (unit_Units_uint16_96.l0 kq l0 a1 (l0.length : Int) x8_1 = some r) ∧ Aside0 (kq ≤ k) ∧ Drawn0 w w')
 case atStart => exact ⟨(0), eS, H', ⟨Nat.le_refl _⟩, dD⟩
 case round =>
  clear H'
  try clear p2
  obtain ⟨x8_1, rfl, HA, HK1, ⟨m1, rfl⟩⟩ := hrel
  cases gk with
  | zero => exact absurd HA.out (by simp [unit_Units_uint16_96.l0])
  | succ k1 =>
   have H := HA.out
   clear HA
   simp only [unit_Units_uint16_96.l0] at H
   by_cases c3 : x8_1 < (l0.length : Int)
   ·rw [if_pos c3] at H
    have c3b0 : decide (x8_1 < (l0.length : Int)) = true := decide_eq_true c3
    clear c3
    by_cases c4 : 0 ≤ x8_1
    ·rw [if_pos c4] at H
     have c4b0 : decide (0 ≤ x8_1) = true := decide_eq_true c4
     clear c4
     by_cases c5 : x8_1 < (l0.length : Int)
     ·rw [if_pos c5] at H
      have c5b0 : decide (x8_1 < (l0.length : Int)) = true := decide_eq_true c5
      clear c5
      by_cases c6 : a1 = (rd l0 x8_1)
      ·rw [if_pos c6] at H
       have c6b0 : (a1 == (rd l0 x8_1)) = true := beq_iff_eq.mpr c6
       have c6b1 : (a1 != (rd l0 x8_1)) = false := bne_eq_false_iff_eq.mpr c6
       clear c6
       obtain rfl := Option.some.inj H
       have p147 : 0 ≤ (x8_1 : Int) := of_decide_eq_true aS
       have q147 : x8_1 < (l0.length : Int) := of_decide_eq_true aS
       obtain ⟨ad147, e147, hx147_0⟩ := Kd.at_int HR0.out x8_1 p147 q147
       cases e147
       replace p147 := eq_true p147
       replace q147 := eq_true q147
       go_wp2
       go_ret
       exact ⟨eS, dD⟩
      ·rw [if_neg c6] at H
       have c6b0 : (a1 == (rd l0 x8_1)) = false := beq_eq_false_iff_ne.mpr c6
       have c6b1 : (a1 != (rd l0 x8_1)) = true := bne_iff_ne.mpr c6
       have H' := Aside0.mk H
       clear H
       have p147 : 0 ≤ (x8_1 : Int) := of_decide_eq_true aS
       have q147 : x8_1 < (l0.length : Int) := of_decide_eq_true aS
       obtain ⟨ad147, e147, hx147_0⟩ := Kd.at_int HR0.out x8_1 p147 q147
       cases e147
       replace p147 := eq_true p147
       replace q147 := eq_true q147
       go_wp2
       go_roundg k1
       case measure => have := HK1.out; omega
       case rel => exact ⟨(wrap64 (x8_1 + 1)), eS, H', ⟨by have := HK1.out; omega⟩, dD⟩
     ·rw [if_neg c5] at H
      exact absurd H (by simp)
    ·rw [if_neg c4] at H
     exact absurd H (by simp)
   ·rw [if_neg c3] at H
    have c3b0 : decide (x8_1 < (l0.length : Int)) = false := decide_eq_false c3
    clear c3
    obtain rfl := Option.some.inj H
    go_wp2
    go_ret
    exact ⟨eS, dD⟩

/-! ### unit_Units_uint16_78: function 78 -/
def unit_Units_uint16_78.f (k : Nat) (l0 : List Int) (a1 : Int) : Option (Bool) := (unit_Units_uint16_96.f k l0 a1).bind fun t148 => (some (decide (t148 ≥ 0)))
theorem unit_Units_uint16_78.mono : ∀ a0 a1 k, LeO (unit_Units_uint16_78.f k a0 a1) (unit_Units_uint16_78.f (k + 1) a0 a1) := by
 intro a0 a1 k
 unfold unit_Units_uint16_78.f
 repeat' (with_reducible first | apply unit_Units_uint16_96.mono | apply LeO.refl | apply LeO.none | refine LeO.ite ?_ ?_ | refine LeO.bind ?_ (fun _ => ?_))
set_option maxHeartbeats 8000000 in
set_option maxRecDepth 100000 in
theorem unit_Units_uint16_78.calls (k : Nat) (A0 : Option Addr) (c0 : Nat) (l0 : List Int) (a1 : Int) (r : Bool) (w : World) (hr0 : Kd.C (Kd.int .u16) w A0 l0.length l0) (hc0 : l0.length ≤ c0) (h : unit_Units_uint16_78.f k l0 a1 = some r) :
  Calls Tryz.prog 78 #[.slice A0 l0.length c0, .int .u16 a1] w fun e w' => e = .returned (.bool r) ∧ Drawn0 w w' := by
 have HR0 := Aside0.mk hr0
 have HC0 := Aside0.mk hc0
 clear hr0 hc0
 have H : ((unit_Units_uint16_96.f k l0 a1).bind fun t148 => (some (decide (t148 ≥ 0)))) = some r := h
 clear h
 replace H := Option.bind_eq_some_iff.mp H
 obtain ⟨t148, A30, H⟩ := H
 replace H : (some (decide (t148 ≥ 0))) = some r := H
 have A3 := Aside0.mk A30
 clear A30
 obtain rfl := Option.some.inj H
 go_enter Tryz.func78, Tryz.ntmps78
 go_wp2_with (first | ((with_reducible refine gate_callee (f := 96) rfl ?_); refine goesL_ (some 7) rfl rfl Tryz.func96 (by kernel_rfl) rfl #[.slice A0 l0.length c0, .int .u16 a1] rfl eA ?_; (with_reducible refine (unit_Units_uint16_96.calls k _ _ l0 a1 t148 _ ?side1 ?side2 A3.out).mono ?_); (case side1 => exact Kd.C_below (HR0.out) oN); (case side2 => exact HC0.out); rintro e w' ⟨rfl, ⟨nd, rfl⟩⟩; refine ⟨_, rfl, ?_⟩))
 go_ret
 exact ⟨eS, dD⟩

end Go.Proofs.YtddaogebacigbaaGreatDoor.XA
