-- Written by a program of this session's (wip/xp) out of the translation; given functions by hand.
import Derived.Test.YtckggmblafafjaaGreatDoorXA0
import Derived.Test.YtckggmblafafjaaGreatDoorXA8
namespace Go.Proofs.YtckggmblafafjaaGreatDoor.XA
open Go.RowKit Go.Proofs.YtckggmblafafjaaGreatDoorW.PrintWords Go.Proofs.YtckggmblafafjaaGreatDoorW.PrintLast Go.Proofs.YtckggmblafafjaaGreatDoorW.PrintMore
attribute [local go_sem] max2_int min2_int max_two min_two max_three min_three max_four min_four   -- for this text's walks alone
set_option linter.unusedVariables false
set_option linter.unusedSimpArgs false

/-! ### transposallaw06_Make: function 8 -/
mutual
def transposallaw06_Make.l0 : Nat → List (S26) → Int → List (S46) → Int → Int → Option ((List (S26)))
 | 0, _, _, _, _, _ => none
 | k + 1, x3, x4, x9, x10, x11 => if x11 < x10 then (if 0 ≤ x11 then (if x11 < (x9.length : Int) then (if x11 = 40 then (some x3) else ((transposallaw06_Name.f ((rd_T46 x9 x11).f3)).bind fun t261 => (if (x3.length : Int) > 0 then (transposallaw06_Make.j1 k x3 ((x4 + (1 + (Int.tmod ((rd_T46 x9 x11).f0) 4))) % 4294967296) x9 x10 x11 (decide ((Int.tmod ((rd_T46 x9 x11).f2) 3) > 0)) ((rd_T46 x9 x11).f0) ((rd_T46 x9 x11).f1) ((rd_T46 x9 x11).f2) ((rd_T46 x9 x11).f3) ((x4 + (1 + (Int.tmod ((rd_T46 x9 x11).f0) 4))) % 4294967296) t261 (Int.tmod ((rd_T46 x9 x11).f1) 5) 0) else (transposallaw06_Make.j1 k x3 ((x4 + (1 + (Int.tmod ((rd_T46 x9 x11).f0) 4))) % 4294967296) x9 x10 x11 false ((rd_T46 x9 x11).f0) ((rd_T46 x9 x11).f1) ((rd_T46 x9 x11).f2) ((rd_T46 x9 x11).f3) ((x4 + (1 + (Int.tmod ((rd_T46 x9 x11).f0) 4))) % 4294967296) t261 (Int.tmod ((rd_T46 x9 x11).f1) 5) 0)))) else (none)) else (none)) else (some x3)
def transposallaw06_Make.j1 : Nat → List (S26) → Int → List (S46) → Int → Int → Bool → Int → Int → Int → Int → Int → ByteArray → Int → Int → Option ((List (S26)))
 | 0, _, _, _, _, _, _, _, _, _, _, _, _, _, _ => none
 | k + 1, x3, x4, x9, x10, x11, x41, x261000, x261001, x261002, x261003, x263000, x263001, x263002, x263003 => if x41 = true then (if (x3.length : Int) = 0 then (none) else (if 0 ≤ (Int.tmod (wrap64 (x261002)) (x3.length : Int)) then (if (Int.tmod (wrap64 (x261002)) (x3.length : Int)) < (x3.length : Int) then ((transposallaw06_deep.f k x3 ((rd_T26 x3 (Int.tmod (wrap64 (x261002)) (x3.length : Int))).f0)).bind fun t265 => (if t265 < 11 then (if x3.length < 4398046511104 then (transposallaw06_Make.l0 k (x3 ++ [(⟨x263000, x263001, (rd_T26 x3 (Int.tmod (wrap64 (x261002)) (x3.length : Int))).f2, (rd_T26 x3 (Int.tmod (wrap64 (x261002)) (x3.length : Int))).f0⟩ : S26)]) x4 x9 x10 (wrap64 (x11 + 1))) else (none)) else (if x3.length < 4398046511104 then (transposallaw06_Make.l0 k (x3 ++ [(⟨x263000, x263001, x263002, x263003⟩ : S26)]) x4 x9 x10 (wrap64 (x11 + 1))) else (none)))) else (none)) else (none))) else (if x3.length < 4398046511104 then (transposallaw06_Make.l0 k (x3 ++ [(⟨x263000, x263001, x263002, x263003⟩ : S26)]) x4 x9 x10 (wrap64 (x11 + 1))) else (none))
end
def transposallaw06_Make.f (k : Nat) (l0 : List (S46)) : Option ((List (S26))) := transposallaw06_Make.l0 k ([] : List (S26)) 0 l0 (l0.length : Int) 0
theorem transposallaw06_Make.mono_l : ∀ k, (∀ y0 y1 y2 y3 y4, LeO (transposallaw06_Make.l0 k y0 y1 y2 y3 y4) (transposallaw06_Make.l0 (k + 1) y0 y1 y2 y3 y4)) ∧ (∀ y0 y1 y2 y3 y4 y5 y6 y7 y8 y9 y10 y11 y12 y13, LeO (transposallaw06_Make.j1 k y0 y1 y2 y3 y4 y5 y6 y7 y8 y9 y10 y11 y12 y13) (transposallaw06_Make.j1 (k + 1) y0 y1 y2 y3 y4 y5 y6 y7 y8 y9 y10 y11 y12 y13))
 | 0 => ⟨fun _ _ _ _ _ r h => by simp [transposallaw06_Make.l0] at h, fun _ _ _ _ _ _ _ _ _ _ _ _ _ _ r h => by simp [transposallaw06_Make.j1] at h⟩
 | k + 1 => by
  obtain ⟨ih0, ih1⟩ := transposallaw06_Make.mono_l k
  refine ⟨?_, ?_⟩
  ·intro y0 y1 y2 y3 y4
   unfold transposallaw06_Make.l0
   repeat' first
   | (with_reducible exact ih0 _ _ _ _ _)
   | (with_reducible exact ih1 _ _ _ _ _ _ _ _ _ _ _ _ _ _)
   | (with_reducible exact transposallaw06_deep.mono _ _ _)
   | (with_reducible exact LeO.refl _)
   | (with_reducible exact LeO.none _)
   | (with_reducible refine LeO.ite ?_ ?_)
   | (with_reducible refine LeO.bind ?_ (fun _ => ?_))
   | exact ih0 _ _ _ _ _
   | exact ih1 _ _ _ _ _ _ _ _ _ _ _ _ _ _
   | exact transposallaw06_deep.mono _ _ _
   | exact LeO.none _
   | refine LeO.ite ?_ ?_
   | refine LeO.bind ?_ (fun _ => ?_)
  ·intro y0 y1 y2 y3 y4 y5 y6 y7 y8 y9 y10 y11 y12 y13
   unfold transposallaw06_Make.j1
   repeat' first
   | (with_reducible exact ih0 _ _ _ _ _)
   | (with_reducible exact ih1 _ _ _ _ _ _ _ _ _ _ _ _ _ _)
   | (with_reducible exact transposallaw06_deep.mono _ _ _)
   | (with_reducible exact LeO.refl _)
   | (with_reducible exact LeO.none _)
   | (with_reducible refine LeO.ite ?_ ?_)
   | (with_reducible refine LeO.bind ?_ (fun _ => ?_))
   | exact ih0 _ _ _ _ _
   | exact ih1 _ _ _ _ _ _ _ _ _ _ _ _ _ _
   | exact transposallaw06_deep.mono _ _ _
   | exact LeO.none _
   | refine LeO.ite ?_ ?_
   | refine LeO.bind ?_ (fun _ => ?_)
theorem transposallaw06_Make.mono : ∀ a0 k, LeO (transposallaw06_Make.f k a0) (transposallaw06_Make.f (k + 1) a0) := by
 intro a0 k
 obtain ⟨ih0, ih1⟩ := transposallaw06_Make.mono_l k
 unfold transposallaw06_Make.f
 repeat' first
   | (with_reducible exact ih0 _ _ _ _ _)
   | (with_reducible exact ih1 _ _ _ _ _ _ _ _ _ _ _ _ _ _)
   | (with_reducible exact transposallaw06_deep.mono _ _ _)
   | (with_reducible exact LeO.refl _)
   | (with_reducible exact LeO.none _)
   | (with_reducible refine LeO.ite ?_ ?_)
   | (with_reducible refine LeO.bind ?_ (fun _ => ?_))
   | exact ih0 _ _ _ _ _
   | exact ih1 _ _ _ _ _ _ _ _ _ _ _ _ _ _
   | exact transposallaw06_deep.mono _ _ _
   | exact LeO.none _
   | refine LeO.ite ?_ ?_
   | refine LeO.bind ?_ (fun _ => ?_)
def transposallaw06_Make.T8 : Bool × List (List Nat × List Nat) := (true, [([], []), ([], []), ([1], [1]), ([2], [2]), ([], []), ([4], [4]), ([5], [5]), ([0, 3, 6], [0, 3, 6]), ([], []), ([8, 7, 3, 0, 1, 2, 3, 4, 5, 6, 7, 8], [7, 8])])
def transposallaw06_Make.B8 : List Nat := [0, 0, 2, 6, 0, 16, 48, 127, 0, 511]
theorem transposallaw06_Make.tab8 : rtab .any (opsOf Tryz.f8 8) = transposallaw06_Make.T8 := by kernel_rfl
theorem transposallaw06_Make.bits8 : waitsOk transposallaw06_Make.T8.2 transposallaw06_Make.B8 = true := by kernel_rfl
def transposallaw06_Make.T12 : Bool × List (List Nat × List Nat) := (true, [([], []), ([0], [0]), ([], []), ([2], [2]), ([0, 1], []), ([4, 1, 0, 1], [1, 4]), ([0, 1, 2, 3, 4, 5], []), ([6, 3, 5, 0, 1, 2, 3, 4, 5], [3, 6])])
def transposallaw06_Make.B12 : List Nat := [0, 1, 0, 4, 3, 19, 63, 127]
theorem transposallaw06_Make.tab12 : rtab .any (opsOf Tryz.f8 12) = transposallaw06_Make.T12 := by kernel_rfl
theorem transposallaw06_Make.bits12 : waitsOk transposallaw06_Make.T12.2 transposallaw06_Make.B12 = true := by kernel_rfl
set_option maxHeartbeats 60000000 in
set_option maxRecDepth 100000 in
theorem transposallaw06_Make.calls (k : Nat) (A0 : Option Addr) (c0 : Nat) (l0 : List (S46)) (r : List (S26)) (w : World) (hr0 : Kd.C k46 w A0 l0.length l0) (hc0 : l0.length ≤ c0) (h : transposallaw06_Make.f k l0 = some r) :
  Calls Tryz.prog 8 #[.slice A0 l0.length c0] w fun e w' => ∃ v0_ : Value, e = .returned (v0_) ∧ Kd.R k26 26 w' w.heap.size (fun _ => True) v0_ r ∧ Below w.heap.size w w' := by
 have hu46 := Tryz.underlying46
 have hu26 := Tryz.underlying26
 have HR0 := Aside0.mk hr0
 have HC0 := Aside0.mk hc0
 clear hr0 hc0
 have HB := Aside0.mk (Below.refl w.heap.size w)
 have H : (transposallaw06_Make.l0 k ([] : List (S26)) 0 l0 (l0.length : Int) 0) = some r := h
 clear h
 have H' := Aside0.mk H
 clear H
 go_enter Tryz.func8, Tryz.ntmps8
 go_wp2
 go_loopg [3, 4, 11] k (fun kq v3 v4 v11 w' => ∃ (x3_1 : List (S26)) (x4_1 : Int) (x11_1 : Int), v4 = .int .u32 x4_1 ∧ v11 = .int .i64 x11_1 ∧ Aside0 (transposallaw06_Make.l0 kq x3_1 x4_1 l0 (l0.length : Int) x11_1 = some r) ∧ Aside0 (kq ≤ k) ∧ Aside0 (Kd.R k26 26 w' w.heap.size (fun _ => True) v3 x3_1) ∧ Aside0 (Below w.heap.size w w'))
 case atStart => exact ⟨(([] : List (S26))), (0), (0), (by first | rfl | (simp; done) | (simp [*]; done)), (by first | rfl | (simp; done) | (simp [*]; done)), H', ⟨Nat.le_refl _⟩, ⟨by first | exact Kd.R_nil _ _ _ _ _ | exact Kd.N_nil _ _ _ _ _ | exact Kd.V_nil _ _ _ _ _ | exact Kd.Q_nil _ _ _ _ _ | exact Kd.S_nil _ _ _ _ _⟩, ⟨by repeat (first | (with_reducible first | exact HB.out | apply below_alloc | apply pw_below_drewN | apply below_drew1) | exact HB.out)⟩⟩
 case round =>
  clear H'
  obtain ⟨x3_1, x4_1, x11_1, rfl, rfl, HA, HK1, HO_3, HB⟩ := hrel
  cases gk with
  | zero => exact absurd HA.out (by simp [transposallaw06_Make.l0])
  | succ k1 =>
   have H := HA.out
   clear HA
   simp only [transposallaw06_Make.l0] at H
   by_cases c2 : x11_1 < (l0.length : Int)
   ·rw [if_pos c2] at H
    have c2b0 : decide (x11_1 < (l0.length : Int)) = true := decide_eq_true c2
    clear c2
    by_cases c3 : 0 ≤ x11_1
    ·rw [if_pos c3] at H
     have c3b0 : decide (0 ≤ x11_1) = true := decide_eq_true c3
     clear c3
     by_cases c4 : x11_1 < (l0.length : Int)
     ·rw [if_pos c4] at H
      have c4b0 : decide (x11_1 < (l0.length : Int)) = true := decide_eq_true c4
      clear c4
      by_cases c5 : x11_1 = 40
      ·rw [if_pos c5] at H
       have c5b0 : (x11_1 == 40) = true := beq_iff_eq.mpr c5
       have c5b1 : (x11_1 != 40) = false := bne_eq_false_iff_eq.mpr c5
       clear c5
       obtain rfl := Option.some.inj H
       have p259 : 0 ≤ (x11_1 : Int) := of_decide_eq_true (by first | (with_reducible assumption) | assumption)
       have q259 : x11_1 < (l0.length : Int) := of_decide_eq_true (by first | (with_reducible assumption) | assumption)
       obtain ⟨ad259, e259, hx259_0, hx259_1, hx259_2, hx259_3⟩ := at_T46 HR0.out x11_1 p259 q259
       cases e259
       replace hx259_0 := (HB.out.cell (World.block_lt_of_cell? w _ hx259_0)).trans hx259_0
       replace hx259_1 := (HB.out.cell (World.block_lt_of_cell? w _ hx259_1)).trans hx259_1
       replace hx259_2 := (HB.out.cell (World.block_lt_of_cell? w _ hx259_2)).trans hx259_2
       replace hx259_3 := (HB.out.cell (World.block_lt_of_cell? w _ hx259_3)).trans hx259_3
       replace p259 := eq_true p259
       replace q259 := eq_true q259
       go_wp2_with (first | ((with_reducible refine gate_dst (N := 6) rfl ?_); refine box_event ?hg (N := 6) ?hd (cs := #[.int .u8 0, .int .u8 0, .int .u8 0, .int .u8 0]) (t := 46) ?hr ?_; (case hd => rfl); (case hg => rfl); (case hr => first | (go_simp; done) | (go_simp; rfl)); intro gb260 hg w6 hbox hb; have n0_ := Aside0.mk (Kd.R_below (by (with_reducible repeat (first | apply Kd.R_alloc | apply Kd.R_drewN | apply Kd.R_drew)); exact HO_3.out) hb); have n1_ := Aside0.mk (below_step (by repeat (first | (with_reducible first | exact HB.out | apply below_alloc | apply pw_below_drewN | apply below_drew1) | exact HB.out)) hb); have n2_ := Aside0.mk (hbox); have n3_ := Aside0.mk ((by rw [hg]; exact (below_size (by repeat (first | (with_reducible first | exact HB.out | apply below_alloc | apply pw_below_drewN | apply below_drew1) | exact HB.out))) : w.heap.size ≤ gb260)); have n4_ := Aside0.mk ((by rw [hg]; exact (below_size (by repeat (first | (with_reducible first | exact HB.out | apply below_alloc | apply pw_below_drewN | apply below_drew1) | exact HB.out))) : w.heap.size ≤ gb260)); clear HO_3; clear HB; have HO_3 := n0_; have HB := n1_; have BK260 := n2_; have GW260 := n3_; have GE260 := n4_; clear n0_ n1_ n2_ n3_ n4_; clear hb hbox hg; have hcz7_0 : w6.cell? ⟨gb260, 0, none⟩ = some (.int .u8 0) := (blk_cell BK260.out 0).trans rfl; have hcz7_1 : w6.cell? ⟨gb260, 1, none⟩ = some (.int .u8 0) := (blk_cell BK260.out 1).trans rfl; have hcz7_2 : w6.cell? ⟨gb260, 2, none⟩ = some (.int .u8 0) := (blk_cell BK260.out 2).trans rfl; have hcz7_3 : w6.cell? ⟨gb260, 3, none⟩ = some (.int .u8 0) := (blk_cell BK260.out 3).trans rfl; have hfz7_0 := blk_frozen BK260.out 0; have hfz7_1 := blk_frozen BK260.out 1; have hfz7_2 := blk_frozen BK260.out 2; have hfz7_3 := blk_frozen BK260.out 3))
       go_ret
       exact ⟨_, by first | rfl | (simp [errW_none, errW_some] <;> rfl) | (simp [*, errW_none, errW_some] <;> rfl), by (with_reducible repeat (first | apply Kd.R_alloc | apply Kd.R_drewN | apply Kd.R_drew)); exact Kd.R_mono (Kd.R_far (p := ⟨gb260, 3, none⟩) (Kd.R_far (p := ⟨gb260, 2, none⟩) (Kd.R_far (p := ⟨gb260, 1, none⟩) (Kd.R_far (p := ⟨gb260, 0, none⟩) (Kd.R_types HO_3.out BK260.out (by decide)) (fun _ hk => hk.2) (.int .u8 ((rd_T46 l0 x11_1).f0))) (fun _ hk => hk.2) (.int .u8 ((rd_T46 l0 x11_1).f1))) (fun _ hk => hk.2) (.int .u8 ((rd_T46 l0 x11_1).f2))) (fun _ hk => hk.2) (.int .u8 ((rd_T46 l0 x11_1).f3))) (fun _ hk => trivial), by repeat (first | (with_reducible first | exact HB.out | apply below_alloc | apply pw_below_drewN | apply below_drew1 | refine below_set ?_ GE260.out) | exact HB.out)⟩
      ·rw [if_neg c5] at H
       have c5b0 : (x11_1 == 40) = false := beq_eq_false_iff_ne.mpr c5
       have c5b1 : (x11_1 != 40) = true := bne_iff_ne.mpr c5
       replace H := Option.bind_eq_some_iff.mp H
       obtain ⟨t261, A80, H⟩ := H
       replace H : (if (x3_1.length : Int) > 0 then (transposallaw06_Make.j1 k1 x3_1 ((x4_1 + (1 + (Int.tmod ((rd_T46 l0 x11_1).f0) 4))) % 4294967296) l0 (l0.length : Int) x11_1 (decide ((Int.tmod ((rd_T46 l0 x11_1).f2) 3) > 0)) ((rd_T46 l0 x11_1).f0) ((rd_T46 l0 x11_1).f1) ((rd_T46 l0 x11_1).f2) ((rd_T46 l0 x11_1).f3) ((x4_1 + (1 + (Int.tmod ((rd_T46 l0 x11_1).f0) 4))) % 4294967296) t261 (Int.tmod ((rd_T46 l0 x11_1).f1) 5) 0) else (transposallaw06_Make.j1 k1 x3_1 ((x4_1 + (1 + (Int.tmod ((rd_T46 l0 x11_1).f0) 4))) % 4294967296) l0 (l0.length : Int) x11_1 false ((rd_T46 l0 x11_1).f0) ((rd_T46 l0 x11_1).f1) ((rd_T46 l0 x11_1).f2) ((rd_T46 l0 x11_1).f3) ((x4_1 + (1 + (Int.tmod ((rd_T46 l0 x11_1).f0) 4))) % 4294967296) t261 (Int.tmod ((rd_T46 l0 x11_1).f1) 5) 0)) = some r := H
       have A8 := Aside0.mk A80
       clear A80
       have HC9 := Aside0.mk H
       clear H
       have p259 : 0 ≤ (x11_1 : Int) := of_decide_eq_true (by first | (with_reducible assumption) | assumption)
       have q259 : x11_1 < (l0.length : Int) := of_decide_eq_true (by first | (with_reducible assumption) | assumption)
       obtain ⟨ad259, e259, hx259_0, hx259_1, hx259_2, hx259_3⟩ := at_T46 HR0.out x11_1 p259 q259
       cases e259
       replace hx259_0 := (HB.out.cell (World.block_lt_of_cell? w _ hx259_0)).trans hx259_0
       replace hx259_1 := (HB.out.cell (World.block_lt_of_cell? w _ hx259_1)).trans hx259_1
       replace hx259_2 := (HB.out.cell (World.block_lt_of_cell? w _ hx259_2)).trans hx259_2
       replace hx259_3 := (HB.out.cell (World.block_lt_of_cell? w _ hx259_3)).trans hx259_3
       replace p259 := eq_true p259
       replace q259 := eq_true q259
       try go_wp2_with (first | ((with_reducible refine gate_dst (N := 6) rfl ?_); refine box_event ?hg (N := 6) ?hd (cs := #[.int .u8 0, .int .u8 0, .int .u8 0, .int .u8 0]) (t := 46) ?hr ?_; (case hd => rfl); (case hg => rfl); (case hr => first | (go_simp; done) | (go_simp; rfl)); intro gb260 hg w10 hbox hb; have n0_ := Aside0.mk (Kd.R_below (by (with_reducible repeat (first | apply Kd.R_alloc | apply Kd.R_drewN | apply Kd.R_drew)); exact HO_3.out) hb); have n1_ := Aside0.mk (below_step (by repeat (first | (with_reducible first | exact HB.out | apply below_alloc | apply pw_below_drewN | apply below_drew1) | exact HB.out)) hb); have n2_ := Aside0.mk (hbox); have n3_ := Aside0.mk ((by rw [hg]; exact (below_size (by repeat (first | (with_reducible first | exact HB.out | apply below_alloc | apply pw_below_drewN | apply below_drew1) | exact HB.out))) : w.heap.size ≤ gb260)); have n4_ := Aside0.mk ((by rw [hg]; exact (below_size (by repeat (first | (with_reducible first | exact HB.out | apply below_alloc | apply pw_below_drewN | apply below_drew1) | exact HB.out))) : w.heap.size ≤ gb260)); clear HO_3; clear HB; have HO_3 := n0_; have HB := n1_; have BK260 := n2_; have GW260 := n3_; have GE260 := n4_; clear n0_ n1_ n2_ n3_ n4_; clear hb hbox hg; have hcz11_0 : w10.cell? ⟨gb260, 0, none⟩ = some (.int .u8 0) := (blk_cell BK260.out 0).trans rfl; have hcz11_1 : w10.cell? ⟨gb260, 1, none⟩ = some (.int .u8 0) := (blk_cell BK260.out 1).trans rfl; have hcz11_2 : w10.cell? ⟨gb260, 2, none⟩ = some (.int .u8 0) := (blk_cell BK260.out 2).trans rfl; have hcz11_3 : w10.cell? ⟨gb260, 3, none⟩ = some (.int .u8 0) := (blk_cell BK260.out 3).trans rfl; have hfz11_0 := blk_frozen BK260.out 0; have hfz11_1 := blk_frozen BK260.out 1; have hfz11_2 := blk_frozen BK260.out 2; have hfz11_3 := blk_frozen BK260.out 3))
       have n0_ : Aside0 (Kd.R k26 26 ((((w10.setCell ⟨gb260, 0, none⟩ (.int .u8 ((rd_T46 l0 x11_1).f0))).setCell ⟨gb260, 1, none⟩ (.int .u8 ((rd_T46 l0 x11_1).f1))).setCell ⟨gb260, 2, none⟩ (.int .u8 ((rd_T46 l0 x11_1).f2))).setCell ⟨gb260, 3, none⟩ (.int .u8 ((rd_T46 l0 x11_1).f3))) w.heap.size (fun _ => True) u3 x3_1) := ⟨by (with_reducible repeat (first | apply Kd.R_alloc | apply Kd.R_drewN | apply Kd.R_drew)); exact Kd.R_mono (Kd.R_far (p := ⟨gb260, 3, none⟩) (Kd.R_far (p := ⟨gb260, 2, none⟩) (Kd.R_far (p := ⟨gb260, 1, none⟩) (Kd.R_far (p := ⟨gb260, 0, none⟩) (Kd.R_types HO_3.out BK260.out (by decide)) (fun _ hk => hk.2) (.int .u8 ((rd_T46 l0 x11_1).f0))) (fun _ hk => hk.2) (.int .u8 ((rd_T46 l0 x11_1).f1))) (fun _ hk => hk.2) (.int .u8 ((rd_T46 l0 x11_1).f2))) (fun _ hk => hk.2) (.int .u8 ((rd_T46 l0 x11_1).f3))) (fun _ hk => trivial)⟩
       have n1_ : Aside0 (((((w10.setCell ⟨gb260, 0, none⟩ (.int .u8 ((rd_T46 l0 x11_1).f0))).setCell ⟨gb260, 1, none⟩ (.int .u8 ((rd_T46 l0 x11_1).f1))).setCell ⟨gb260, 2, none⟩ (.int .u8 ((rd_T46 l0 x11_1).f2))).setCell ⟨gb260, 3, none⟩ (.int .u8 ((rd_T46 l0 x11_1).f3))).heap[gb260]? = some (.cells #[.int .u8 ((rd_T46 l0 x11_1).f0), .int .u8 ((rd_T46 l0 x11_1).f1), .int .u8 ((rd_T46 l0 x11_1).f2), .int .u8 ((rd_T46 l0 x11_1).f3)] 46 (0, 0))) := ⟨by (with_reducible repeat (first | refine blk_drewN ?_ _ | refine blk_drew ?_ | refine blk_alloc ?_ _)); refine blk_put (cs := #[.int .u8 ((rd_T46 l0 x11_1).f0), .int .u8 ((rd_T46 l0 x11_1).f1), .int .u8 ((rd_T46 l0 x11_1).f2), .int .u8 0]) ?_ 3 _ rfl; (with_reducible repeat (first | refine blk_drewN ?_ _ | refine blk_drew ?_ | refine blk_alloc ?_ _)); refine blk_put (cs := #[.int .u8 ((rd_T46 l0 x11_1).f0), .int .u8 ((rd_T46 l0 x11_1).f1), .int .u8 0, .int .u8 0]) ?_ 2 _ rfl; (with_reducible repeat (first | refine blk_drewN ?_ _ | refine blk_drew ?_ | refine blk_alloc ?_ _)); refine blk_put (cs := #[.int .u8 ((rd_T46 l0 x11_1).f0), .int .u8 0, .int .u8 0, .int .u8 0]) ?_ 1 _ rfl; (with_reducible repeat (first | refine blk_drewN ?_ _ | refine blk_drew ?_ | refine blk_alloc ?_ _)); refine blk_put (cs := #[.int .u8 0, .int .u8 0, .int .u8 0, .int .u8 0]) ?_ 0 _ rfl; (with_reducible repeat (first | refine blk_drewN ?_ _ | refine blk_drew ?_ | refine blk_alloc ?_ _)); exact BK260.out⟩
       have n2_ : Aside0 (Below w.heap.size w ((((w10.setCell ⟨gb260, 0, none⟩ (.int .u8 ((rd_T46 l0 x11_1).f0))).setCell ⟨gb260, 1, none⟩ (.int .u8 ((rd_T46 l0 x11_1).f1))).setCell ⟨gb260, 2, none⟩ (.int .u8 ((rd_T46 l0 x11_1).f2))).setCell ⟨gb260, 3, none⟩ (.int .u8 ((rd_T46 l0 x11_1).f3)))) := ⟨by repeat (first | (with_reducible first | exact HB.out | apply below_alloc | apply pw_below_drewN | apply below_drew1 | refine below_set ?_ GE260.out) | exact HB.out)⟩
       (try clear HO_3)
       (try clear BK260)
       (try clear HB)
       generalize ((((w10.setCell ⟨gb260, 0, none⟩ (.int .u8 ((rd_T46 l0 x11_1).f0))).setCell ⟨gb260, 1, none⟩ (.int .u8 ((rd_T46 l0 x11_1).f1))).setCell ⟨gb260, 2, none⟩ (.int .u8 ((rd_T46 l0 x11_1).f2))).setCell ⟨gb260, 3, none⟩ (.int .u8 ((rd_T46 l0 x11_1).f3))) = w12 at n0_ n1_ n2_ ⊢
       have HO_3 := n0_
       have BK260 := n1_
       have HB := n2_
       clear n0_ n1_ n2_
       have n0_ := Aside0.mk (Kd.R_drew HO_3.out)
       have n1_ := Aside0.mk (blk_drew BK260.out)
       have n2_ := Aside0.mk (below_drew1 HB.out)
       clear HO_3
       clear BK260
       clear HB
       have HO_3 := n0_
       have BK260 := n1_
       have HB := n2_
       clear n0_ n1_ n2_
       refine start_ (n := 10) (S := fun w' => w'.cell? ⟨gb260, 0, none⟩ = some (.int .u8 ((rd_T46 l0 x11_1).f0)) ∧ w'.cell? ⟨gb260, 1, none⟩ = some (.int .u8 ((rd_T46 l0 x11_1).f1)) ∧ w'.cell? ⟨gb260, 2, none⟩ = some (.int .u8 ((rd_T46 l0 x11_1).f2)) ∧ w'.cell? ⟨gb260, 3, none⟩ = some (.int .u8 ((rd_T46 l0 x11_1).f3))) (ds := []) #[false, false, false, false, false, false, false, false, false, false] (by kernel_rfl) rfl rfl ⟨(blk_cell BK260.out 0).trans rfl, (blk_cell BK260.out 1).trans rfl, (blk_cell BK260.out 2).trans rfl, (blk_cell BK260.out 3).trans rfl⟩ (fun hHeld => ?_); refine with_tabW transposallaw06_Make.tab8 transposallaw06_Make.bits8 (fun HT_ HW_ => ?_)
       generalize w12.drew = w13 at HO_3 BK260 HB hHeld ⊢
       refine pure_ (i := 0) (N := some 25) (v := ?_) (a' := ?_) #[true, false, false, false, false, false, false, false, false, false] rfl rfl (any_of HT_.out (by kernel_rfl)) (fun _ _ _ h => h) (Or.inl ⟨by rfl, ?_⟩) ?_ ?_
       rotate_left
       ·intro w'
        go_simp
        with_reducible rfl
       rotate_left
       ·simp only [Act.put, List.setIfInBounds_toArray, List.set_cons_zero, List.set_cons_succ, i64_w, i32_w]
        rfl
       refine pure_ (i := 1) (N := some 26) (v := ?_) (a' := ?_) #[true, true, false, false, false, false, false, false, false, false] rfl rfl (any_of HT_.out (by kernel_rfl)) (fun _ _ _ h => h) (Or.inl ⟨by rfl, ?_⟩) ?_ ?_
       rotate_left
       ·intro w'
        go_simp
        with_reducible rfl
       rotate_left
       ·simp only [Act.put, List.setIfInBounds_toArray, List.set_cons_zero, List.set_cons_succ, i64_w, i32_w]
        rfl
       refine pure_ (i := 4) (N := some 29) (v := ?_) (a' := ?_) #[true, true, false, false, true, false, false, false, false, false] rfl rfl (any_of HT_.out (by kernel_rfl)) (fun _ _ _ h => h) (Or.inl ⟨by rfl, ?_⟩) ?_ ?_
       rotate_left
       ·intro w'
        go_simp
        with_reducible rfl
       rotate_left
       ·simp only [Act.put, List.setIfInBounds_toArray, List.set_cons_zero, List.set_cons_succ, i64_w, i32_w]
        rfl
       refine take_ (i := 2) (N := some 27) (v := ?_) (a' := ?_) #[true, true, true, false, true, false, false, false, false, false] rfl rfl (take_ofW HT_.out HW_.out (by kernel_rfl)) (fun _ _ _ h => h) (Or.inl ⟨by rfl, ?_⟩) hHeld ?_ ?_
       rotate_left
       ·rintro w' ⟨s0, s1, s2, s3⟩
        go_simp
        with_reducible rfl
       rotate_left
       ·simp only [Act.put, List.setIfInBounds_toArray, List.set_cons_zero, List.set_cons_succ, i64_w, i32_w]
        rfl
       refine take_ (i := 5) (N := some 30) (v := ?_) (a' := ?_) #[true, true, true, false, true, true, false, false, false, false] rfl rfl (take_ofW HT_.out HW_.out (by kernel_rfl)) (fun _ _ _ h => h) (Or.inl ⟨by rfl, ?_⟩) hHeld ?_ ?_
       rotate_left
       ·rintro w' ⟨s0, s1, s2, s3⟩
        go_simp
        with_reducible rfl
       rotate_left
       ·simp only [Act.put, List.setIfInBounds_toArray, List.set_cons_zero, List.set_cons_succ, i64_w, i32_w]
        rfl
       refine pure_ (i := 6) (N := some 31) (v := ?_) (a' := ?_) #[true, true, true, false, true, true, true, false, false, false] rfl rfl (any_of HT_.out (by kernel_rfl)) (fun _ _ _ h => h) (Or.inl ⟨by rfl, ?_⟩) ?_ ?_
       rotate_left
       ·intro w'
        go_simp
        with_reducible rfl
       rotate_left
       ·simp only [Act.put, List.setIfInBounds_toArray, List.set_cons_zero, List.set_cons_succ, i64_w, i32_w]
        rfl
       refine join_ (σ := Nat) 1 #[true, true, true, true, true, true, true, true, true, false] (fun s_ => [(28, .string t261), (7, .pointer (some ⟨s_, 0, none⟩)), (32, .agg #[.int .u32 ((x4_1 + (1 + (Int.tmod ((rd_T46 l0 x11_1).f0) 4))) % 4294967296), .string t261, .int .u8 (Int.tmod ((rd_T46 l0 x11_1).f1) 5), .int .u32 0])]) (fun s_ w' => (w'.cell? ⟨gb260, 0, none⟩ = some (.int .u8 ((rd_T46 l0 x11_1).f0)) ∧ w'.cell? ⟨gb260, 1, none⟩ = some (.int .u8 ((rd_T46 l0 x11_1).f1)) ∧ w'.cell? ⟨gb260, 2, none⟩ = some (.int .u8 ((rd_T46 l0 x11_1).f2)) ∧ w'.cell? ⟨gb260, 3, none⟩ = some (.int .u8 ((rd_T46 l0 x11_1).f3))) ∧ (Kd.R k26 26 w' w.heap.size (fun k_ => k_ ≠ s_) u3 x3_1) ∧ (w'.heap[gb260]? = some (.cells #[.int .u8 ((rd_T46 l0 x11_1).f0), .int .u8 ((rd_T46 l0 x11_1).f1), .int .u8 ((rd_T46 l0 x11_1).f2), .int .u8 ((rd_T46 l0 x11_1).f3)] 46 (0, 0))) ∧ (w'.heap[s_]? = some (.cells #[.int .u32 0, .string (⟨#[]⟩ : ByteArray), .int .u8 0, .int .u32 0] 26 (0, 0))) ∧ (w.heap.size ≤ s_) ∧ (w.heap.size ≤ s_) ∧ (gb260 ≠ s_) ∧ (s_ ≠ gb260) ∧ (Below w.heap.size w w')) ?_ ?_
       rotate_left
       ·intro hCont
        refine two_ (i := 3) (j := 8) (Ni := some 28) (Nj := some 7) #[true, true, true, true, true, true, true, false, false, false] #[true, true, true, false, true, true, true, false, true, false] rfl rfl rfl rfl (two_of HT_.out (by kernel_rfl)) (by decide) (by decide) (fun K hK => ?_) (fun K hK => ?_)
        ·skip
         refine goes_ Tryz.func21 (by kernel_rfl) rfl #[.int .u8 ((rd_T46 l0 x11_1).f3)] (by rfl) rfl rfl (by (try simp only [List.map_toArray, List.map_cons, List.map_nil]); first | done | rfl | (simp only [List.length_drop, List.length_take]; rfl)) ?_
         with_reducible refine (transposallaw06_Name.calls ((rd_T46 l0 x11_1).f3) t261 _ A8.out).mono ?_
         rintro e w14 ⟨rfl, hb⟩
         refine ⟨_, rfl, ?_⟩
         have n0_ := Aside0.mk (Kd.R_below (by (with_reducible repeat (first | apply Kd.R_alloc | apply Kd.R_drewN | apply Kd.R_drew)); exact HO_3.out) hb)
         have n1_ := Aside0.mk (blk_below (g := gb260) (o := .cells #[.int .u8 ((rd_T46 l0 x11_1).f0), .int .u8 ((rd_T46 l0 x11_1).f1), .int .u8 ((rd_T46 l0 x11_1).f2), .int .u8 ((rd_T46 l0 x11_1).f3)] 46 (0, 0)) (by (with_reducible repeat (first | refine blk_drewN ?_ _ | refine blk_drew ?_ | refine blk_alloc ?_ _)); exact BK260.out) hb)
         have n2_ := Aside0.mk (below_step (by repeat (first | (with_reducible first | exact HB.out | apply below_alloc | apply pw_below_drewN | apply below_drew1 | refine below_set ?_ GE260.out) | exact HB.out)) hb)
         clear HO_3
         clear BK260
         clear HB
         have HO_3 := n0_
         have BK260 := n1_
         have HB := n2_
         clear n0_ n1_ n2_
         (try clear hb)
         (try clear hb2)
         (try clear hk)
         (try clear hi)
         refine hK.out _ _ ⟨(blk_cell BK260.out 0).trans rfl, (blk_cell BK260.out 1).trans rfl, (blk_cell BK260.out 2).trans rfl, (blk_cell BK260.out 3).trans rfl⟩ (fun hHeld => ?_)
         clear hK K
         refine norm_ (a' := ?_) ?_ ?_
         rotate_left
         ·show Act.put _ (some 28) _ = _
          simp only [Act.put, List.setIfInBounds_toArray, List.set_cons_zero, List.set_cons_succ, i64_w, i32_w]
          rfl
         refine pure_ (i := 7) (N := some 32) (v := ?_) (a' := ?_) #[true, true, true, true, true, true, true, true, false, false] rfl rfl (any_of HT_.out (by kernel_rfl)) (fun _ _ _ h => h) (Or.inl ⟨by rfl, ?_⟩) ?_ ?_
         rotate_left
         ·intro w'
          go_simp
          with_reducible rfl
         rotate_left
         ·simp only [Act.put, List.setIfInBounds_toArray, List.set_cons_zero, List.set_cons_succ, i64_w, i32_w]
          rfl
         refine one_ (i := 8) (N := some 7) #[true, true, true, true, true, true, true, true, true, false] rfl rfl (one_of HT_.out (by kernel_rfl)) (by decide) (fun K hK => ?_)
         refine box_step ?hg (N := 7) ?hd (cs := #[.int .u32 0, .string (⟨#[]⟩ : ByteArray), .int .u8 0, .int .u32 0]) (t := 26) ?hr ?_; (case hd => rfl); (case hg => rfl); (case hr => first | (go_simp; done) | (go_simp; rfl))
         intro gb262 hg w15 hbox hb
         have n0_ := Aside0.mk (Kd.R_below (Kd.R_elderB (by (with_reducible repeat (first | apply Kd.R_alloc | apply Kd.R_drewN | apply Kd.R_drew)); exact HO_3.out) gb262 (Nat.le_of_eq hg.symm)) hb)
         have n1_ := Aside0.mk (blk_below (g := gb260) (o := .cells #[.int .u8 ((rd_T46 l0 x11_1).f0), .int .u8 ((rd_T46 l0 x11_1).f1), .int .u8 ((rd_T46 l0 x11_1).f2), .int .u8 ((rd_T46 l0 x11_1).f3)] 46 (0, 0)) (by (with_reducible repeat (first | refine blk_drewN ?_ _ | refine blk_drew ?_ | refine blk_alloc ?_ _)); exact BK260.out) hb)
         have n2_ := Aside0.mk (below_step (by repeat (first | (with_reducible first | exact HB.out | apply below_alloc | apply pw_below_drewN | apply below_drew1 | refine below_set ?_ GE260.out) | exact HB.out)) hb)
         have n3_ := Aside0.mk (hbox)
         have n4_ := Aside0.mk ((by rw [hg]; exact (below_size (by repeat (first | (with_reducible first | exact HB.out | apply below_alloc | apply pw_below_drewN | apply below_drew1 | refine below_set ?_ GE260.out) | exact HB.out))) : w.heap.size ≤ gb262))
         have n5_ := Aside0.mk ((by rw [hg]; exact (below_size (by repeat (first | (with_reducible first | exact HB.out | apply below_alloc | apply pw_below_drewN | apply below_drew1 | refine below_set ?_ GE260.out) | exact HB.out))) : w.heap.size ≤ gb262))
         have n6_ := Aside0.mk ((by rw [hg]; exact Nat.ne_of_lt (blk_lt (g := gb260) (o := .cells #[.int .u8 ((rd_T46 l0 x11_1).f0), .int .u8 ((rd_T46 l0 x11_1).f1), .int .u8 ((rd_T46 l0 x11_1).f2), .int .u8 ((rd_T46 l0 x11_1).f3)] 46 (0, 0)) (by (with_reducible repeat (first | refine blk_drewN ?_ _ | refine blk_drew ?_ | refine blk_alloc ?_ _)); exact BK260.out)) : gb260 ≠ gb262))
         have n7_ := Aside0.mk ((by rw [hg]; exact Nat.ne_of_gt (blk_lt (g := gb260) (o := .cells #[.int .u8 ((rd_T46 l0 x11_1).f0), .int .u8 ((rd_T46 l0 x11_1).f1), .int .u8 ((rd_T46 l0 x11_1).f2), .int .u8 ((rd_T46 l0 x11_1).f3)] 46 (0, 0)) (by (with_reducible repeat (first | refine blk_drewN ?_ _ | refine blk_drew ?_ | refine blk_alloc ?_ _)); exact BK260.out)) : gb262 ≠ gb260))
         clear HO_3
         clear BK260
         clear HB
         have HO_3 := n0_
         have BK260 := n1_
         have HB := n2_
         have BK262 := n3_
         have GW262 := n4_
         have GE262 := n5_
         have NB260_262 := n6_
         have NB262_260 := n7_
         clear n0_ n1_ n2_ n3_ n4_ n5_ n6_ n7_
         clear hb hbox hg
         refine hK.out _ _ ⟨(blk_cell BK260.out 0).trans rfl, (blk_cell BK260.out 1).trans rfl, (blk_cell BK260.out 2).trans rfl, (blk_cell BK260.out 3).trans rfl⟩ (fun hHeld => ?_)
         clear hK K
         refine norm_ (a' := ?_) ?_ ?_
         rotate_left
         ·show Act.put _ (some 7) _ = _
          simp only [Act.put, List.setIfInBounds_toArray, List.set_cons_zero, List.set_cons_succ, i64_w, i32_w]
          rfl
         exact norm_ (by simp only [putAll, Act.put, List.setIfInBounds_toArray, List.set_cons_zero, List.set_cons_succ]) (hCont (gb262) _ ⟨hHeld, (by (with_reducible repeat (first | apply Kd.R_alloc | apply Kd.R_drewN | apply Kd.R_drew)); exact Kd.R_mono HO_3.out (fun _ hk => hk.2)), (by (with_reducible repeat (first | refine blk_drewN ?_ _ | refine blk_drew ?_ | refine blk_alloc ?_ _)); exact BK260.out), (by (with_reducible repeat (first | refine blk_drewN ?_ _ | refine blk_drew ?_ | refine blk_alloc ?_ _)); exact BK262.out), GW262.out, GE262.out, NB260_262.out, NB262_260.out, (by repeat (first | (with_reducible first | exact HB.out | apply below_alloc | apply pw_below_drewN | apply below_drew1 | refine below_set ?_ GE260.out | refine below_set ?_ GE262.out) | exact HB.out))⟩)
        ·skip
         refine box_step ?hg (N := 7) ?hd (cs := #[.int .u32 0, .string (⟨#[]⟩ : ByteArray), .int .u8 0, .int .u32 0]) (t := 26) ?hr ?_; (case hd => rfl); (case hg => rfl); (case hr => first | (go_simp; done) | (go_simp; rfl))
         intro gb262 hg w14 hbox hb
         have n0_ := Aside0.mk (Kd.R_below (Kd.R_elderB (by (with_reducible repeat (first | apply Kd.R_alloc | apply Kd.R_drewN | apply Kd.R_drew)); exact HO_3.out) gb262 (Nat.le_of_eq hg.symm)) hb)
         have n1_ := Aside0.mk (blk_below (g := gb260) (o := .cells #[.int .u8 ((rd_T46 l0 x11_1).f0), .int .u8 ((rd_T46 l0 x11_1).f1), .int .u8 ((rd_T46 l0 x11_1).f2), .int .u8 ((rd_T46 l0 x11_1).f3)] 46 (0, 0)) (by (with_reducible repeat (first | refine blk_drewN ?_ _ | refine blk_drew ?_ | refine blk_alloc ?_ _)); exact BK260.out) hb)
         have n2_ := Aside0.mk (below_step (by repeat (first | (with_reducible first | exact HB.out | apply below_alloc | apply pw_below_drewN | apply below_drew1 | refine below_set ?_ GE260.out) | exact HB.out)) hb)
         have n3_ := Aside0.mk (hbox)
         have n4_ := Aside0.mk ((by rw [hg]; exact (below_size (by repeat (first | (with_reducible first | exact HB.out | apply below_alloc | apply pw_below_drewN | apply below_drew1 | refine below_set ?_ GE260.out) | exact HB.out))) : w.heap.size ≤ gb262))
         have n5_ := Aside0.mk ((by rw [hg]; exact (below_size (by repeat (first | (with_reducible first | exact HB.out | apply below_alloc | apply pw_below_drewN | apply below_drew1 | refine below_set ?_ GE260.out) | exact HB.out))) : w.heap.size ≤ gb262))
         have n6_ := Aside0.mk ((by rw [hg]; exact Nat.ne_of_lt (blk_lt (g := gb260) (o := .cells #[.int .u8 ((rd_T46 l0 x11_1).f0), .int .u8 ((rd_T46 l0 x11_1).f1), .int .u8 ((rd_T46 l0 x11_1).f2), .int .u8 ((rd_T46 l0 x11_1).f3)] 46 (0, 0)) (by (with_reducible repeat (first | refine blk_drewN ?_ _ | refine blk_drew ?_ | refine blk_alloc ?_ _)); exact BK260.out)) : gb260 ≠ gb262))
         have n7_ := Aside0.mk ((by rw [hg]; exact Nat.ne_of_gt (blk_lt (g := gb260) (o := .cells #[.int .u8 ((rd_T46 l0 x11_1).f0), .int .u8 ((rd_T46 l0 x11_1).f1), .int .u8 ((rd_T46 l0 x11_1).f2), .int .u8 ((rd_T46 l0 x11_1).f3)] 46 (0, 0)) (by (with_reducible repeat (first | refine blk_drewN ?_ _ | refine blk_drew ?_ | refine blk_alloc ?_ _)); exact BK260.out)) : gb262 ≠ gb260))
         clear HO_3
         clear BK260
         clear HB
         have HO_3 := n0_
         have BK260 := n1_
         have HB := n2_
         have BK262 := n3_
         have GW262 := n4_
         have GE262 := n5_
         have NB260_262 := n6_
         have NB262_260 := n7_
         clear n0_ n1_ n2_ n3_ n4_ n5_ n6_ n7_
         clear hb hbox hg
         refine hK.out _ _ ⟨(blk_cell BK260.out 0).trans rfl, (blk_cell BK260.out 1).trans rfl, (blk_cell BK260.out 2).trans rfl, (blk_cell BK260.out 3).trans rfl⟩ (fun hHeld => ?_)
         clear hK K
         refine norm_ (a' := ?_) ?_ ?_
         rotate_left
         ·show Act.put _ (some 7) _ = _
          simp only [Act.put, List.setIfInBounds_toArray, List.set_cons_zero, List.set_cons_succ, i64_w, i32_w]
          rfl
         refine one_ (i := 3) (N := some 28) #[true, true, true, true, true, true, true, false, true, false] rfl rfl (one_of HT_.out (by kernel_rfl)) (by decide) (fun K hK => ?_)
         refine goes_ Tryz.func21 (by kernel_rfl) rfl #[.int .u8 ((rd_T46 l0 x11_1).f3)] (by rfl) rfl rfl (by (try simp only [List.map_toArray, List.map_cons, List.map_nil]); first | done | rfl | (simp only [List.length_drop, List.length_take]; rfl)) ?_
         with_reducible refine (transposallaw06_Name.calls ((rd_T46 l0 x11_1).f3) t261 _ A8.out).mono ?_
         rintro e w15 ⟨rfl, hb⟩
         refine ⟨_, rfl, ?_⟩
         have n0_ := Aside0.mk (Kd.R_below (by (with_reducible repeat (first | apply Kd.R_alloc | apply Kd.R_drewN | apply Kd.R_drew)); exact HO_3.out) hb)
         have n1_ := Aside0.mk (blk_below (g := gb260) (o := .cells #[.int .u8 ((rd_T46 l0 x11_1).f0), .int .u8 ((rd_T46 l0 x11_1).f1), .int .u8 ((rd_T46 l0 x11_1).f2), .int .u8 ((rd_T46 l0 x11_1).f3)] 46 (0, 0)) (by (with_reducible repeat (first | refine blk_drewN ?_ _ | refine blk_drew ?_ | refine blk_alloc ?_ _)); exact BK260.out) hb)
         have n2_ := Aside0.mk (blk_below (g := gb262) (o := .cells #[.int .u32 0, .string (⟨#[]⟩ : ByteArray), .int .u8 0, .int .u32 0] 26 (0, 0)) (by (with_reducible repeat (first | refine blk_drewN ?_ _ | refine blk_drew ?_ | refine blk_alloc ?_ _)); exact BK262.out) hb)
         have n3_ := Aside0.mk (below_step (by repeat (first | (with_reducible first | exact HB.out | apply below_alloc | apply pw_below_drewN | apply below_drew1 | refine below_set ?_ GE260.out | refine below_set ?_ GE262.out) | exact HB.out)) hb)
         clear HO_3
         clear BK260
         clear BK262
         clear HB
         have HO_3 := n0_
         have BK260 := n1_
         have BK262 := n2_
         have HB := n3_
         clear n0_ n1_ n2_ n3_
         (try clear hb)
         (try clear hb2)
         (try clear hk)
         (try clear hi)
         refine hK.out _ _ ⟨(blk_cell BK260.out 0).trans rfl, (blk_cell BK260.out 1).trans rfl, (blk_cell BK260.out 2).trans rfl, (blk_cell BK260.out 3).trans rfl⟩ (fun hHeld => ?_)
         clear hK K
         refine norm_ (a' := ?_) ?_ ?_
         rotate_left
         ·show Act.put _ (some 28) _ = _
          simp only [Act.put, List.setIfInBounds_toArray, List.set_cons_zero, List.set_cons_succ, i64_w, i32_w]
          rfl
         refine pure_ (i := 7) (N := some 32) (v := ?_) (a' := ?_) #[true, true, true, true, true, true, true, true, true, false] rfl rfl (any_of HT_.out (by kernel_rfl)) (fun _ _ _ h => h) (Or.inl ⟨by rfl, ?_⟩) ?_ ?_
         rotate_left
         ·intro w'
          go_simp
          with_reducible rfl
         rotate_left
         ·simp only [Act.put, List.setIfInBounds_toArray, List.set_cons_zero, List.set_cons_succ, i64_w, i32_w]
          rfl
         exact norm_ (by simp only [putAll, Act.put, List.setIfInBounds_toArray, List.set_cons_zero, List.set_cons_succ]) (hCont (gb262) _ ⟨hHeld, (by (with_reducible repeat (first | apply Kd.R_alloc | apply Kd.R_drewN | apply Kd.R_drew)); exact Kd.R_mono HO_3.out (fun _ hk => hk.2)), (by (with_reducible repeat (first | refine blk_drewN ?_ _ | refine blk_drew ?_ | refine blk_alloc ?_ _)); exact BK260.out), (by (with_reducible repeat (first | refine blk_drewN ?_ _ | refine blk_drew ?_ | refine blk_alloc ?_ _)); exact BK262.out), GW262.out, GE262.out, NB260_262.out, NB262_260.out, (by repeat (first | (with_reducible first | exact HB.out | apply below_alloc | apply pw_below_drewN | apply below_drew1 | refine below_set ?_ GE260.out | refine below_set ?_ GE262.out) | exact HB.out))⟩)
       rintro gb262 w16 ⟨hS_, h0_, h1_, h2_, h3_, h4_, h5_, h6_, h7_⟩
       have n0_ : Aside0 (Kd.R k26 26 w16 w.heap.size (fun k_ => k_ ≠ gb262) u3 x3_1) := ⟨h0_⟩
       have n1_ : Aside0 (w16.heap[gb260]? = some (.cells #[.int .u8 ((rd_T46 l0 x11_1).f0), .int .u8 ((rd_T46 l0 x11_1).f1), .int .u8 ((rd_T46 l0 x11_1).f2), .int .u8 ((rd_T46 l0 x11_1).f3)] 46 (0, 0))) := ⟨h1_⟩
       have n2_ : Aside0 (w16.heap[gb262]? = some (.cells #[.int .u32 0, .string (⟨#[]⟩ : ByteArray), .int .u8 0, .int .u32 0] 26 (0, 0))) := ⟨h2_⟩
       have n3_ : Aside0 (w.heap.size ≤ gb262) := ⟨h3_⟩
       have n4_ : Aside0 (w.heap.size ≤ gb262) := ⟨h4_⟩
       have n5_ : Aside0 (gb260 ≠ gb262) := ⟨h5_⟩
       have n6_ : Aside0 (gb262 ≠ gb260) := ⟨h6_⟩
       have n7_ : Aside0 (Below w.heap.size w w16) := ⟨h7_⟩
       clear HO_3
       clear BK260
       clear HB
       clear h0_ h1_ h2_ h3_ h4_ h5_ h6_ h7_
       have HO_3 := n0_
       have BK260 := n1_
       have BK262 := n2_
       have GW262 := n3_
       have GE262 := n4_
       have NB260_262 := n5_
       have NB262_260 := n6_
       have HB := n7_
       clear n0_ n1_ n2_ n3_ n4_ n5_ n6_ n7_
       have hHeld : w16.cell? ⟨gb260, 0, none⟩ = some (.int .u8 ((rd_T46 l0 x11_1).f0)) ∧ w16.cell? ⟨gb260, 1, none⟩ = some (.int .u8 ((rd_T46 l0 x11_1).f1)) ∧ w16.cell? ⟨gb260, 2, none⟩ = some (.int .u8 ((rd_T46 l0 x11_1).f2)) ∧ w16.cell? ⟨gb260, 3, none⟩ = some (.int .u8 ((rd_T46 l0 x11_1).f3)) := hS_
       refine norm_ (a' := ?_) ?_ ?_
       rotate_left
       ·simp only [putAll, Act.put, List.setIfInBounds_toArray, List.set_cons_zero, List.set_cons_succ]
        rfl
       refine one_ (i := 9) (N := none) #[true, true, true, true, true, true, true, true, true, true] rfl rfl (one_of HT_.out (by kernel_rfl)) (by decide) (fun K hK => ?_)
       have hs17 : w16.cell? ⟨gb262, 0, none⟩ = some (.int .u32 0) := (blk_cell BK262.out 0).trans rfl
       have hfs17 := blk_frozen BK262.out 0
       have hns17_0 := NB260_262.out
       have hms17_0 := NB262_260.out
       have hs18 : w16.cell? ⟨gb262, 1, none⟩ = some (.string (⟨#[]⟩ : ByteArray)) := (blk_cell BK262.out 1).trans rfl
       have hfs18 := blk_frozen BK262.out 1
       have hns18_0 := NB260_262.out
       have hms18_0 := NB262_260.out
       have hs19 : w16.cell? ⟨gb262, 2, none⟩ = some (.int .u8 0) := (blk_cell BK262.out 2).trans rfl
       have hfs19 := blk_frozen BK262.out 2
       have hns19_0 := NB260_262.out
       have hms19_0 := NB262_260.out
       have hs20 : w16.cell? ⟨gb262, 3, none⟩ = some (.int .u32 0) := (blk_cell BK262.out 3).trans rfl
       have hfs20 := blk_frozen BK262.out 3
       have hns20_0 := NB260_262.out
       have hms20_0 := NB262_260.out
       refine skip_ (w1 := ?_) (by rfl) rfl ?_ ?_
       rotate_left
       ·go_simp
        rfl
       refine hK.out _ _ ⟨((cell_far (p := ⟨gb262, _, none⟩) NB260_262.out _).trans (((cell_far (p := ⟨gb262, _, none⟩) NB260_262.out _).trans (((cell_far (p := ⟨gb262, _, none⟩) NB260_262.out _).trans (((cell_far (p := ⟨gb262, _, none⟩) NB260_262.out _).trans (hHeld.1)))))))), ((cell_far (p := ⟨gb262, _, none⟩) NB260_262.out _).trans (((cell_far (p := ⟨gb262, _, none⟩) NB260_262.out _).trans (((cell_far (p := ⟨gb262, _, none⟩) NB260_262.out _).trans (((cell_far (p := ⟨gb262, _, none⟩) NB260_262.out _).trans (hHeld.2.1)))))))), ((cell_far (p := ⟨gb262, _, none⟩) NB260_262.out _).trans (((cell_far (p := ⟨gb262, _, none⟩) NB260_262.out _).trans (((cell_far (p := ⟨gb262, _, none⟩) NB260_262.out _).trans (((cell_far (p := ⟨gb262, _, none⟩) NB260_262.out _).trans (hHeld.2.2.1)))))))), ((cell_far (p := ⟨gb262, _, none⟩) NB260_262.out _).trans (((cell_far (p := ⟨gb262, _, none⟩) NB260_262.out _).trans (((cell_far (p := ⟨gb262, _, none⟩) NB260_262.out _).trans (((cell_far (p := ⟨gb262, _, none⟩) NB260_262.out _).trans (hHeld.2.2.2))))))))⟩ (fun hHeld => ?_)
       clear hK K
       refine done_ (done_of HT_.out (by kernel_rfl)) ?_
       go_upto_region 9 with (fail)
       go_cut [41] (fun v41 wc => ∃ (kq : Nat) (x41_8 : Bool), v41 = .bool x41_8 ∧ Aside0 (transposallaw06_Make.j1 kq x3_1 ((x4_1 + (1 + (Int.tmod ((rd_T46 l0 x11_1).f0) 4))) % 4294967296) l0 (l0.length : Int) x11_1 x41_8 ((rd_T46 l0 x11_1).f0) ((rd_T46 l0 x11_1).f1) ((rd_T46 l0 x11_1).f2) ((rd_T46 l0 x11_1).f3) ((x4_1 + (1 + (Int.tmod ((rd_T46 l0 x11_1).f0) 4))) % 4294967296) t261 (Int.tmod ((rd_T46 l0 x11_1).f1) 5) 0 = some r) ∧ Aside0 (kq ≤ k1) ∧ Aside0 (Kd.R k26 26 wc w.heap.size (fun k_ => k_ ≠ gb262) u3 x3_1) ∧ Aside0 (wc.heap[gb260]? = some (.cells #[.int .u8 ((rd_T46 l0 x11_1).f0), .int .u8 ((rd_T46 l0 x11_1).f1), .int .u8 ((rd_T46 l0 x11_1).f2), .int .u8 ((rd_T46 l0 x11_1).f3)] 46 (0, 0))) ∧ Aside0 (wc.heap[gb262]? = some (.cells #[.int .u32 ((x4_1 + (1 + (Int.tmod ((rd_T46 l0 x11_1).f0) 4))) % 4294967296), .string t261, .int .u8 (Int.tmod ((rd_T46 l0 x11_1).f1) 5), .int .u32 0] 26 (0, 0))) ∧ Aside0 (Below w.heap.size w wc))
       case first =>
        have H := HC9.out
        clear HC9
        by_cases c21 : (x3_1.length : Int) > 0
        ·rw [if_pos c21] at H
         have c21b0 : decide (0 < (x3_1.length : Int)) = true := decide_eq_true c21
         have c21b1 : decide (0 < x3_1.length) = true := decide_eq_true (by omega)
         clear c21
         (first | rw [c21b0] | (simp only [i64_w, i32_w]; rw [c21b0]) | skip)
         have H' := Aside0.mk H
         clear H
         obtain ⟨Ao22, co22, eo22⟩ := Kd.R_slice HO_3.out
         subst eo22
         have hnb23 := NB260_262.out
         have hnc23 := NB262_260.out
         have hcz24_0 : w16.cell? ⟨gb260, 0, none⟩ = some (.int .u8 ((rd_T46 l0 x11_1).f0)) := (blk_cell BK260.out 0).trans rfl
         have hcz24_1 : w16.cell? ⟨gb260, 1, none⟩ = some (.int .u8 ((rd_T46 l0 x11_1).f1)) := (blk_cell BK260.out 1).trans rfl
         have hcz24_2 : w16.cell? ⟨gb260, 2, none⟩ = some (.int .u8 ((rd_T46 l0 x11_1).f2)) := (blk_cell BK260.out 2).trans rfl
         have hcz24_3 : w16.cell? ⟨gb260, 3, none⟩ = some (.int .u8 ((rd_T46 l0 x11_1).f3)) := (blk_cell BK260.out 3).trans rfl
         have hfz24_0 := blk_frozen BK260.out 0
         have hfz24_1 := blk_frozen BK260.out 1
         have hfz24_2 := blk_frozen BK260.out 2
         have hfz24_3 := blk_frozen BK260.out 3
         go_wp2
         go_meet
         case rel => exact ⟨_, (decide ((Int.tmod ((rd_T46 l0 x11_1).f2) 3) > 0)), (by first | rfl | (simp; done) | (simp [*]; done)), H', ⟨by have := HK1.out; first | omega | exact Nat.le_refl _⟩, ⟨by (with_reducible repeat (first | apply Kd.R_alloc | apply Kd.R_drewN | apply Kd.R_drew)); exact Kd.R_mono (Kd.R_far (p := ⟨gb262, 3, none⟩) (Kd.R_far (p := ⟨gb262, 2, none⟩) (Kd.R_far (p := ⟨gb262, 1, none⟩) (Kd.R_far (p := ⟨gb262, 0, none⟩) (Kd.R_mono HO_3.out (fun k_ hk => (⟨hk, hk⟩ : _ ∧ k_ ≠ gb262))) (fun _ hk => hk.2) (.int .u32 ((x4_1 + (1 + (Int.tmod ((rd_T46 l0 x11_1).f0) 4))) % 4294967296))) (fun _ hk => hk.2) (.string t261)) (fun _ hk => hk.2) (.int .u8 (Int.tmod ((rd_T46 l0 x11_1).f1) 5))) (fun _ hk => hk.2) (.int .u32 0)) (fun _ hk => hk.1)⟩, ⟨by (with_reducible repeat (first | refine blk_drewN ?_ _ | refine blk_drew ?_ | refine blk_alloc ?_ _)); refine blk_far ?_ NB260_262.out _; (with_reducible repeat (first | refine blk_drewN ?_ _ | refine blk_drew ?_ | refine blk_alloc ?_ _)); refine blk_far ?_ NB260_262.out _; (with_reducible repeat (first | refine blk_drewN ?_ _ | refine blk_drew ?_ | refine blk_alloc ?_ _)); refine blk_far ?_ NB260_262.out _; (with_reducible repeat (first | refine blk_drewN ?_ _ | refine blk_drew ?_ | refine blk_alloc ?_ _)); refine blk_far ?_ NB260_262.out _; (with_reducible repeat (first | refine blk_drewN ?_ _ | refine blk_drew ?_ | refine blk_alloc ?_ _)); exact BK260.out⟩, ⟨by (with_reducible repeat (first | refine blk_drewN ?_ _ | refine blk_drew ?_ | refine blk_alloc ?_ _)); refine blk_put (cs := #[.int .u32 ((x4_1 + (1 + (Int.tmod ((rd_T46 l0 x11_1).f0) 4))) % 4294967296), .string t261, .int .u8 (Int.tmod ((rd_T46 l0 x11_1).f1) 5), .int .u32 0]) ?_ 3 _ rfl; (with_reducible repeat (first | refine blk_drewN ?_ _ | refine blk_drew ?_ | refine blk_alloc ?_ _)); refine blk_put (cs := #[.int .u32 ((x4_1 + (1 + (Int.tmod ((rd_T46 l0 x11_1).f0) 4))) % 4294967296), .string t261, .int .u8 0, .int .u32 0]) ?_ 2 _ rfl; (with_reducible repeat (first | refine blk_drewN ?_ _ | refine blk_drew ?_ | refine blk_alloc ?_ _)); refine blk_put (cs := #[.int .u32 ((x4_1 + (1 + (Int.tmod ((rd_T46 l0 x11_1).f0) 4))) % 4294967296), .string (⟨#[]⟩ : ByteArray), .int .u8 0, .int .u32 0]) ?_ 1 _ rfl; (with_reducible repeat (first | refine blk_drewN ?_ _ | refine blk_drew ?_ | refine blk_alloc ?_ _)); refine blk_put (cs := #[.int .u32 0, .string (⟨#[]⟩ : ByteArray), .int .u8 0, .int .u32 0]) ?_ 0 _ rfl; (with_reducible repeat (first | refine blk_drewN ?_ _ | refine blk_drew ?_ | refine blk_alloc ?_ _)); exact BK262.out⟩, ⟨by repeat (first | (with_reducible first | exact HB.out | apply below_alloc | apply pw_below_drewN | apply below_drew1 | refine below_set ?_ GE260.out | refine below_set ?_ GE262.out) | exact HB.out)⟩⟩
        ·rw [if_neg c21] at H
         have c21b0 : decide (0 < (x3_1.length : Int)) = false := decide_eq_false c21
         have c21b1 : decide (0 < x3_1.length) = false := decide_eq_false (by omega)
         clear c21
         (first | rw [c21b0] | (simp only [i64_w, i32_w]; rw [c21b0]) | skip)
         have H' := Aside0.mk H
         clear H
         obtain ⟨Ao25, co25, eo25⟩ := Kd.R_slice HO_3.out
         subst eo25
         go_wp2
         go_meet
         case rel => exact ⟨_, (false), (by first | rfl | (simp; done) | (simp [*]; done)), H', ⟨by have := HK1.out; first | omega | exact Nat.le_refl _⟩, ⟨by (with_reducible repeat (first | apply Kd.R_alloc | apply Kd.R_drewN | apply Kd.R_drew)); exact Kd.R_mono (Kd.R_far (p := ⟨gb262, 3, none⟩) (Kd.R_far (p := ⟨gb262, 2, none⟩) (Kd.R_far (p := ⟨gb262, 1, none⟩) (Kd.R_far (p := ⟨gb262, 0, none⟩) (Kd.R_mono HO_3.out (fun k_ hk => (⟨hk, hk⟩ : _ ∧ k_ ≠ gb262))) (fun _ hk => hk.2) (.int .u32 ((x4_1 + (1 + (Int.tmod ((rd_T46 l0 x11_1).f0) 4))) % 4294967296))) (fun _ hk => hk.2) (.string t261)) (fun _ hk => hk.2) (.int .u8 (Int.tmod ((rd_T46 l0 x11_1).f1) 5))) (fun _ hk => hk.2) (.int .u32 0)) (fun _ hk => hk.1)⟩, ⟨by (with_reducible repeat (first | refine blk_drewN ?_ _ | refine blk_drew ?_ | refine blk_alloc ?_ _)); refine blk_far ?_ NB260_262.out _; (with_reducible repeat (first | refine blk_drewN ?_ _ | refine blk_drew ?_ | refine blk_alloc ?_ _)); refine blk_far ?_ NB260_262.out _; (with_reducible repeat (first | refine blk_drewN ?_ _ | refine blk_drew ?_ | refine blk_alloc ?_ _)); refine blk_far ?_ NB260_262.out _; (with_reducible repeat (first | refine blk_drewN ?_ _ | refine blk_drew ?_ | refine blk_alloc ?_ _)); refine blk_far ?_ NB260_262.out _; (with_reducible repeat (first | refine blk_drewN ?_ _ | refine blk_drew ?_ | refine blk_alloc ?_ _)); exact BK260.out⟩, ⟨by (with_reducible repeat (first | refine blk_drewN ?_ _ | refine blk_drew ?_ | refine blk_alloc ?_ _)); refine blk_put (cs := #[.int .u32 ((x4_1 + (1 + (Int.tmod ((rd_T46 l0 x11_1).f0) 4))) % 4294967296), .string t261, .int .u8 (Int.tmod ((rd_T46 l0 x11_1).f1) 5), .int .u32 0]) ?_ 3 _ rfl; (with_reducible repeat (first | refine blk_drewN ?_ _ | refine blk_drew ?_ | refine blk_alloc ?_ _)); refine blk_put (cs := #[.int .u32 ((x4_1 + (1 + (Int.tmod ((rd_T46 l0 x11_1).f0) 4))) % 4294967296), .string t261, .int .u8 0, .int .u32 0]) ?_ 2 _ rfl; (with_reducible repeat (first | refine blk_drewN ?_ _ | refine blk_drew ?_ | refine blk_alloc ?_ _)); refine blk_put (cs := #[.int .u32 ((x4_1 + (1 + (Int.tmod ((rd_T46 l0 x11_1).f0) 4))) % 4294967296), .string (⟨#[]⟩ : ByteArray), .int .u8 0, .int .u32 0]) ?_ 1 _ rfl; (with_reducible repeat (first | refine blk_drewN ?_ _ | refine blk_drew ?_ | refine blk_alloc ?_ _)); refine blk_put (cs := #[.int .u32 0, .string (⟨#[]⟩ : ByteArray), .int .u8 0, .int .u32 0]) ?_ 0 _ rfl; (with_reducible repeat (first | refine blk_drewN ?_ _ | refine blk_drew ?_ | refine blk_alloc ?_ _)); exact BK262.out⟩, ⟨by repeat (first | (with_reducible first | exact HB.out | apply below_alloc | apply pw_below_drewN | apply below_drew1 | refine below_set ?_ GE260.out | refine below_set ?_ GE262.out) | exact HB.out)⟩⟩
       case rest =>
        clear HC9
        try clear c2
        try clear c2b0
        try clear p2
        try clear q2
        try clear hx2
        try clear c3
        try clear c3b0
        try clear c4
        try clear c4b0
        try clear c5
        try clear c5b0
        try clear c5b1
        try clear c8
        try clear c21
        try clear c21b0
        try clear c21b1
        try clear c23
        try clear p25
        try clear q25
        try clear hx25
        try clear hcz11_0
        try clear hcz11_1
        try clear hcz11_2
        try clear hcz11_3
        try clear hcz24_0
        try clear hcz24_1
        try clear hcz24_2
        try clear hcz24_3
        try clear hcz7_0
        try clear hcz7_1
        try clear hcz7_2
        try clear hcz7_3
        try clear hfz11_0
        try clear hfz11_1
        try clear hfz11_2
        try clear hfz11_3
        try clear hfz24_0
        try clear hfz24_1
        try clear hfz24_2
        try clear hfz24_3
        try clear hfz7_0
        try clear hfz7_1
        try clear hfz7_2
        try clear hfz7_3
        try clear hx259_0
        try clear hx259_1
        try clear hx259_2
        try clear hx259_3
        try clear p259
        try clear q259
        obtain ⟨kq, x41_8, rfl, HA, HJ8, HO_3, BK260, BK262, HB⟩ := hcut
        cases kq with
        | zero => exact absurd HA.out (by simp [transposallaw06_Make.j1])
        | succ kj8 =>
         have H := HA.out
         clear HA
         simp only [transposallaw06_Make.j1] at H
         by_cases c26 : x41_8 = true
         ·subst c26
          have H1 : (if (x3_1.length : Int) = 0 then (none) else (if 0 ≤ (Int.tmod (wrap64 (((rd_T46 l0 x11_1).f2))) (x3_1.length : Int)) then (if (Int.tmod (wrap64 (((rd_T46 l0 x11_1).f2))) (x3_1.length : Int)) < (x3_1.length : Int) then ((transposallaw06_deep.f kj8 x3_1 ((rd_T26 x3_1 (Int.tmod (wrap64 (((rd_T46 l0 x11_1).f2))) (x3_1.length : Int))).f0)).bind fun t265 => (if t265 < 11 then (if x3_1.length < 4398046511104 then (transposallaw06_Make.l0 kj8 (x3_1 ++ [(⟨((x4_1 + (1 + (Int.tmod ((rd_T46 l0 x11_1).f0) 4))) % 4294967296), t261, (rd_T26 x3_1 (Int.tmod (wrap64 (((rd_T46 l0 x11_1).f2))) (x3_1.length : Int))).f2, (rd_T26 x3_1 (Int.tmod (wrap64 (((rd_T46 l0 x11_1).f2))) (x3_1.length : Int))).f0⟩ : S26)]) ((x4_1 + (1 + (Int.tmod ((rd_T46 l0 x11_1).f0) 4))) % 4294967296) l0 (l0.length : Int) (wrap64 (x11_1 + 1))) else (none)) else (if x3_1.length < 4398046511104 then (transposallaw06_Make.l0 kj8 (x3_1 ++ [(⟨((x4_1 + (1 + (Int.tmod ((rd_T46 l0 x11_1).f0) 4))) % 4294967296), t261, (Int.tmod ((rd_T46 l0 x11_1).f1) 5), 0⟩ : S26)]) ((x4_1 + (1 + (Int.tmod ((rd_T46 l0 x11_1).f0) 4))) % 4294967296) l0 (l0.length : Int) (wrap64 (x11_1 + 1))) else (none)))) else (none)) else (none))) = some r := by rw [if_pos rfl] at H; exact H
          clear H
          have H := H1
          clear H1
          by_cases c27 : (x3_1.length : Int) = 0
          ·rw [if_pos c27] at H
           exact absurd H (by simp)
          ·rw [if_neg c27] at H
           have c27b0 : ((x3_1.length : Int) == 0) = false := beq_eq_false_iff_ne.mpr c27
           have c27b1 : ((x3_1.length : Int) != 0) = true := bne_iff_ne.mpr c27
           have c27b2 : ¬ (x3_1 = []) := fun h_ => c27 (by rw [h_]; rfl)
           obtain ⟨ji28, hji28⟩ : ∃ j_ : Int, (Int.tmod (wrap64 (((rd_T46 l0 x11_1).f2))) (x3_1.length : Int)) = j_ := ⟨_, rfl⟩
           replace H : (if 0 ≤ (ji28) then (if (ji28) < (x3_1.length : Int) then ((transposallaw06_deep.f kj8 x3_1 ((rd_T26 x3_1 (ji28)).f0)).bind fun t265 => (if t265 < 11 then (if x3_1.length < 4398046511104 then (transposallaw06_Make.l0 kj8 (x3_1 ++ [(⟨((x4_1 + (1 + (Int.tmod ((rd_T46 l0 x11_1).f0) 4))) % 4294967296), t261, (rd_T26 x3_1 (ji28)).f2, (rd_T26 x3_1 (ji28)).f0⟩ : S26)]) ((x4_1 + (1 + (Int.tmod ((rd_T46 l0 x11_1).f0) 4))) % 4294967296) l0 (l0.length : Int) (wrap64 (x11_1 + 1))) else (none)) else (if x3_1.length < 4398046511104 then (transposallaw06_Make.l0 kj8 (x3_1 ++ [(⟨((x4_1 + (1 + (Int.tmod ((rd_T46 l0 x11_1).f0) 4))) % 4294967296), t261, (Int.tmod ((rd_T46 l0 x11_1).f1) 5), 0⟩ : S26)]) ((x4_1 + (1 + (Int.tmod ((rd_T46 l0 x11_1).f0) 4))) % 4294967296) l0 (l0.length : Int) (wrap64 (x11_1 + 1))) else (none)))) else (none)) else (none)) = some r := by first | (rw [hji28] at H; exact H) | (simp only [hji28] at H ⊢; exact H)
           by_cases c29 : 0 ≤ (ji28)
           ·rw [if_pos c29] at H
            have c29b0 : decide (0 ≤ (ji28)) = true := decide_eq_true c29
            clear c29
            by_cases c30 : (ji28) < (x3_1.length : Int)
            ·rw [if_pos c30] at H
             have c30b0 : decide ((ji28) < (x3_1.length : Int)) = true := decide_eq_true c30
             clear c30
             replace H := Option.bind_eq_some_iff.mp H
             obtain ⟨t265, A310, H⟩ := H
             replace H : (if t265 < 11 then (if x3_1.length < 4398046511104 then (transposallaw06_Make.l0 kj8 (x3_1 ++ [(⟨((x4_1 + (1 + (Int.tmod ((rd_T46 l0 x11_1).f0) 4))) % 4294967296), t261, (rd_T26 x3_1 (ji28)).f2, (rd_T26 x3_1 (ji28)).f0⟩ : S26)]) ((x4_1 + (1 + (Int.tmod ((rd_T46 l0 x11_1).f0) 4))) % 4294967296) l0 (l0.length : Int) (wrap64 (x11_1 + 1))) else (none)) else (if x3_1.length < 4398046511104 then (transposallaw06_Make.l0 kj8 (x3_1 ++ [(⟨((x4_1 + (1 + (Int.tmod ((rd_T46 l0 x11_1).f0) 4))) % 4294967296), t261, (Int.tmod ((rd_T46 l0 x11_1).f1) 5), 0⟩ : S26)]) ((x4_1 + (1 + (Int.tmod ((rd_T46 l0 x11_1).f0) 4))) % 4294967296) l0 (l0.length : Int) (wrap64 (x11_1 + 1))) else (none))) = some r := H
             have A31 := Aside0.mk A310
             clear A310
             by_cases c32 : t265 < 11
             ·rw [if_pos c32] at H
              have c32b0 : decide (t265 < 11) = true := decide_eq_true c32
              clear c32
              by_cases c33 : x3_1.length < 4398046511104
              ·rw [if_pos c33] at H
               have LMc33 := Aside0.mk c33
               clear c33
               obtain ⟨y266, hy266⟩ : ∃ y_ : List (S26), y_ = (x3_1 ++ [(⟨((x4_1 + (1 + (Int.tmod ((rd_T46 l0 x11_1).f0) 4))) % 4294967296), t261, (rd_T26 x3_1 (ji28)).f2, (rd_T26 x3_1 (ji28)).f0⟩ : S26)]) := ⟨_, rfl⟩
               replace H : (transposallaw06_Make.l0 kj8 y266 ((x4_1 + (1 + (Int.tmod ((rd_T46 l0 x11_1).f0) 4))) % 4294967296) l0 (l0.length : Int) (wrap64 (x11_1 + 1))) = some r := by first | (rw [hy266]; with_reducible exact H) | (have H2_ := (Option.bind_some _ _).symm.trans H; rw [hy266]; with_reducible exact H2_) | (have H2_ := (Option.bind_some _ _).symm.trans H; with_reducible exact H2_) | with_reducible exact H | (rw [hy266]; exact H) | exact H
               have Ny266 := Aside0.mk hy266
               clear hy266
               have H' := Aside0.mk H
               clear H
               have hnb34 := NB260_262.out
               have hnc34 := NB262_260.out
               have hcz35_0 : wc.cell? ⟨gb260, 0, none⟩ = some (.int .u8 ((rd_T46 l0 x11_1).f0)) := (blk_cell BK260.out 0).trans rfl
               have hcz35_1 : wc.cell? ⟨gb260, 1, none⟩ = some (.int .u8 ((rd_T46 l0 x11_1).f1)) := (blk_cell BK260.out 1).trans rfl
               have hcz35_2 : wc.cell? ⟨gb260, 2, none⟩ = some (.int .u8 ((rd_T46 l0 x11_1).f2)) := (blk_cell BK260.out 2).trans rfl
               have hcz35_3 : wc.cell? ⟨gb260, 3, none⟩ = some (.int .u8 ((rd_T46 l0 x11_1).f3)) := (blk_cell BK260.out 3).trans rfl
               have hfz35_0 := blk_frozen BK260.out 0
               have hfz35_1 := blk_frozen BK260.out 1
               have hfz35_2 := blk_frozen BK260.out 2
               have hfz35_3 := blk_frozen BK260.out 3
               obtain ⟨Ao36, co36, eo36⟩ := Kd.R_slice HO_3.out
               subst eo36
               have p263 : 0 ≤ ((ji28) : Int) := of_decide_eq_true (by first | (with_reducible assumption) | assumption)
               have q263 : (ji28) < (x3_1.length : Int) := of_decide_eq_true (by first | (with_reducible assumption) | assumption)
               obtain ⟨ad263, e263, hx263_0, hx263_1, hx263_2, hx263_3⟩ := at_T26 (Kd.R_reads' HO_3.out).2.2 (ji28) p263 q263
               cases e263
               replace p263 := eq_true p263
               replace q263 := eq_true q263
               try go_wp2_with (first | ((with_reducible refine gate_dst (N := 8) rfl ?_); refine box_event ?hg (N := 8) ?hd (cs := #[.int .u32 0, .string (⟨#[]⟩ : ByteArray), .int .u8 0, .int .u32 0]) (t := 26) ?hr ?_; (case hd => rfl); (case hg => rfl); (case hr => first | (go_simp; done) | (go_simp; rfl)); intro gb264 hg w37 hbox hb; have n0_ := Aside0.mk (Kd.R_below (Kd.R_elderB (by (with_reducible repeat (first | apply Kd.R_alloc | apply Kd.R_drewN | apply Kd.R_drew)); exact HO_3.out) gb264 (Nat.le_of_eq hg.symm)) hb); have n1_ := Aside0.mk (blk_below (g := gb260) (o := .cells #[.int .u8 ((rd_T46 l0 x11_1).f0), .int .u8 ((rd_T46 l0 x11_1).f1), .int .u8 ((rd_T46 l0 x11_1).f2), .int .u8 ((rd_T46 l0 x11_1).f3)] 46 (0, 0)) (by (with_reducible repeat (first | refine blk_drewN ?_ _ | refine blk_drew ?_ | refine blk_alloc ?_ _)); exact BK260.out) hb); have n2_ := Aside0.mk (blk_below (g := gb262) (o := .cells #[.int .u32 ((x4_1 + (1 + (Int.tmod ((rd_T46 l0 x11_1).f0) 4))) % 4294967296), .string t261, .int .u8 (Int.tmod ((rd_T46 l0 x11_1).f1) 5), .int .u32 0] 26 (0, 0)) (by (with_reducible repeat (first | refine blk_drewN ?_ _ | refine blk_drew ?_ | refine blk_alloc ?_ _)); exact BK262.out) hb); have n3_ := Aside0.mk (below_step (by repeat (first | (with_reducible first | exact HB.out | apply below_alloc | apply pw_below_drewN | apply below_drew1 | refine below_set ?_ GE260.out | refine below_set ?_ GE262.out) | exact HB.out)) hb); have n4_ := Aside0.mk (hbox); have n5_ := Aside0.mk ((by rw [hg]; exact (below_size (by repeat (first | (with_reducible first | exact HB.out | apply below_alloc | apply pw_below_drewN | apply below_drew1 | refine below_set ?_ GE260.out | refine below_set ?_ GE262.out) | exact HB.out))) : w.heap.size ≤ gb264)); have n6_ := Aside0.mk ((by rw [hg]; exact (below_size (by repeat (first | (with_reducible first | exact HB.out | apply below_alloc | apply pw_below_drewN | apply below_drew1 | refine below_set ?_ GE260.out | refine below_set ?_ GE262.out) | exact HB.out))) : w.heap.size ≤ gb264)); have n7_ := Aside0.mk ((by rw [hg]; exact Nat.ne_of_lt (blk_lt (g := gb260) (o := .cells #[.int .u8 ((rd_T46 l0 x11_1).f0), .int .u8 ((rd_T46 l0 x11_1).f1), .int .u8 ((rd_T46 l0 x11_1).f2), .int .u8 ((rd_T46 l0 x11_1).f3)] 46 (0, 0)) (by (with_reducible repeat (first | refine blk_drewN ?_ _ | refine blk_drew ?_ | refine blk_alloc ?_ _)); exact BK260.out)) : gb260 ≠ gb264)); have n8_ := Aside0.mk ((by rw [hg]; exact Nat.ne_of_gt (blk_lt (g := gb260) (o := .cells #[.int .u8 ((rd_T46 l0 x11_1).f0), .int .u8 ((rd_T46 l0 x11_1).f1), .int .u8 ((rd_T46 l0 x11_1).f2), .int .u8 ((rd_T46 l0 x11_1).f3)] 46 (0, 0)) (by (with_reducible repeat (first | refine blk_drewN ?_ _ | refine blk_drew ?_ | refine blk_alloc ?_ _)); exact BK260.out)) : gb264 ≠ gb260)); have n9_ := Aside0.mk ((by rw [hg]; exact Nat.ne_of_lt (blk_lt (g := gb262) (o := .cells #[.int .u32 ((x4_1 + (1 + (Int.tmod ((rd_T46 l0 x11_1).f0) 4))) % 4294967296), .string t261, .int .u8 (Int.tmod ((rd_T46 l0 x11_1).f1) 5), .int .u32 0] 26 (0, 0)) (by (with_reducible repeat (first | refine blk_drewN ?_ _ | refine blk_drew ?_ | refine blk_alloc ?_ _)); exact BK262.out)) : gb262 ≠ gb264)); have n10_ := Aside0.mk ((by rw [hg]; exact Nat.ne_of_gt (blk_lt (g := gb262) (o := .cells #[.int .u32 ((x4_1 + (1 + (Int.tmod ((rd_T46 l0 x11_1).f0) 4))) % 4294967296), .string t261, .int .u8 (Int.tmod ((rd_T46 l0 x11_1).f1) 5), .int .u32 0] 26 (0, 0)) (by (with_reducible repeat (first | refine blk_drewN ?_ _ | refine blk_drew ?_ | refine blk_alloc ?_ _)); exact BK262.out)) : gb264 ≠ gb262)); clear HO_3; clear BK260; clear BK262; clear HB; have HO_3 := n0_; have BK260 := n1_; have BK262 := n2_; have HB := n3_; have BK264 := n4_; have GW264 := n5_; have GE264 := n6_; have NB260_264 := n7_; have NB264_260 := n8_; have NB262_264 := n9_; have NB264_262 := n10_; clear n0_ n1_ n2_ n3_ n4_ n5_ n6_ n7_ n8_ n9_ n10_; clear hb hbox hg; have hnb38 := NB264_260.out; have hnc38 := NB260_264.out; have hnb39 := NB264_262.out; have hnc39 := NB262_264.out; have hcz40_0 : w37.cell? ⟨gb264, 0, none⟩ = some (.int .u32 0) := (blk_cell BK264.out 0).trans rfl; have hcz40_1 : w37.cell? ⟨gb264, 1, none⟩ = some (.string (⟨#[]⟩ : ByteArray)) := (blk_cell BK264.out 1).trans rfl; have hcz40_2 : w37.cell? ⟨gb264, 2, none⟩ = some (.int .u8 0) := (blk_cell BK264.out 2).trans rfl; have hcz40_3 : w37.cell? ⟨gb264, 3, none⟩ = some (.int .u32 0) := (blk_cell BK264.out 3).trans rfl; have hfz40_0 := blk_frozen BK264.out 0; have hfz40_1 := blk_frozen BK264.out 1; have hfz40_2 := blk_frozen BK264.out 2; have hfz40_3 := blk_frozen BK264.out 3) | ((with_reducible refine gate_callee (f := 22) rfl ?_); refine goesL_ (some 54) rfl rfl Tryz.func22 (by kernel_rfl) rfl #[.slice (some ad263) x3_1.length co36, .int .u32 ((rd_T26 x3_1 (ji28)).f0)] rfl (by (try simp only [List.map_toArray, List.map_cons, List.map_nil]); first | done | (simp only [hji28]; rfl) | rfl | (simp only [List.length_drop, List.length_take]; rfl)) ?_; (with_reducible refine (transposallaw06_deep.calls kj8 _ _ x3_1 ((rd_T26 x3_1 (ji28)).f0) t265 _ ?side1 ?side2 A31.out).mono ?_); (case side1 => refine (Kd.R_reads' (e := 26) (base := w.heap.size) (ok := fun k_ => (k_ ≠ gb262 ∧ k_ ≠ gb264)) (n := x3_1.length) (c := co36) ?_).2.2; exact (by (with_reducible repeat (first | apply Kd.R_alloc | apply Kd.R_drewN | apply Kd.R_drew)); exact (Kd.R_mono (Kd.R_far (p := ⟨gb264, 3, none⟩) (Kd.R_far (p := ⟨gb264, 2, none⟩) (Kd.R_far (p := ⟨gb264, 1, none⟩) (Kd.R_far (p := ⟨gb264, 0, none⟩) (Kd.R_mono HO_3.out (fun k_ hk => (⟨hk, hk.2⟩ : _ ∧ k_ ≠ gb264))) (fun _ hk => hk.2) (.int .u32 ((rd_T26 x3_1 (ji28)).f0))) (fun _ hk => hk.2) (.string ((rd_T26 x3_1 (ji28)).f1))) (fun _ hk => hk.2) (.int .u8 ((rd_T26 x3_1 (ji28)).f2))) (fun _ hk => hk.2) (.int .u32 ((rd_T26 x3_1 (ji28)).f3))) (fun _ h_ => h_.1)))); (case side2 => exact (Kd.R_reads' HO_3.out).2.1); rintro e w41 ⟨rfl, hb⟩; refine ⟨_, rfl, ?_⟩; have n0_ := Aside0.mk (Kd.R_below (by (with_reducible repeat (first | apply Kd.R_alloc | apply Kd.R_drewN | apply Kd.R_drew)); exact (Kd.R_mono (Kd.R_far (p := ⟨gb264, 3, none⟩) (Kd.R_far (p := ⟨gb264, 2, none⟩) (Kd.R_far (p := ⟨gb264, 1, none⟩) (Kd.R_far (p := ⟨gb264, 0, none⟩) (Kd.R_mono HO_3.out (fun k_ hk => (⟨hk, hk.2⟩ : _ ∧ k_ ≠ gb264))) (fun _ hk => hk.2) (.int .u32 ((rd_T26 x3_1 (ji28)).f0))) (fun _ hk => hk.2) (.string ((rd_T26 x3_1 (ji28)).f1))) (fun _ hk => hk.2) (.int .u8 ((rd_T26 x3_1 (ji28)).f2))) (fun _ hk => hk.2) (.int .u32 ((rd_T26 x3_1 (ji28)).f3))) (fun _ h_ => h_.1))) hb); have n1_ := Aside0.mk (blk_below (g := gb260) (o := .cells #[.int .u8 ((rd_T46 l0 x11_1).f0), .int .u8 ((rd_T46 l0 x11_1).f1), .int .u8 ((rd_T46 l0 x11_1).f2), .int .u8 ((rd_T46 l0 x11_1).f3)] 46 (0, 0)) (by (with_reducible repeat (first | refine blk_drewN ?_ _ | refine blk_drew ?_ | refine blk_alloc ?_ _)); refine blk_far ?_ NB260_264.out _; (with_reducible repeat (first | refine blk_drewN ?_ _ | refine blk_drew ?_ | refine blk_alloc ?_ _)); refine blk_far ?_ NB260_264.out _; (with_reducible repeat (first | refine blk_drewN ?_ _ | refine blk_drew ?_ | refine blk_alloc ?_ _)); refine blk_far ?_ NB260_264.out _; (with_reducible repeat (first | refine blk_drewN ?_ _ | refine blk_drew ?_ | refine blk_alloc ?_ _)); refine blk_far ?_ NB260_264.out _; (with_reducible repeat (first | refine blk_drewN ?_ _ | refine blk_drew ?_ | refine blk_alloc ?_ _)); exact BK260.out) hb); have n2_ := Aside0.mk (blk_below (g := gb262) (o := .cells #[.int .u32 ((x4_1 + (1 + (Int.tmod ((rd_T46 l0 x11_1).f0) 4))) % 4294967296), .string t261, .int .u8 (Int.tmod ((rd_T46 l0 x11_1).f1) 5), .int .u32 0] 26 (0, 0)) (by (with_reducible repeat (first | refine blk_drewN ?_ _ | refine blk_drew ?_ | refine blk_alloc ?_ _)); refine blk_far ?_ NB262_264.out _; (with_reducible repeat (first | refine blk_drewN ?_ _ | refine blk_drew ?_ | refine blk_alloc ?_ _)); refine blk_far ?_ NB262_264.out _; (with_reducible repeat (first | refine blk_drewN ?_ _ | refine blk_drew ?_ | refine blk_alloc ?_ _)); refine blk_far ?_ NB262_264.out _; (with_reducible repeat (first | refine blk_drewN ?_ _ | refine blk_drew ?_ | refine blk_alloc ?_ _)); refine blk_far ?_ NB262_264.out _; (with_reducible repeat (first | refine blk_drewN ?_ _ | refine blk_drew ?_ | refine blk_alloc ?_ _)); exact BK262.out) hb); have n3_ := Aside0.mk (blk_below (g := gb264) (o := .cells #[.int .u32 ((rd_T26 x3_1 (ji28)).f0), .string ((rd_T26 x3_1 (ji28)).f1), .int .u8 ((rd_T26 x3_1 (ji28)).f2), .int .u32 ((rd_T26 x3_1 (ji28)).f3)] 26 (0, 0)) (by (with_reducible repeat (first | refine blk_drewN ?_ _ | refine blk_drew ?_ | refine blk_alloc ?_ _)); refine blk_put (cs := #[.int .u32 ((rd_T26 x3_1 (ji28)).f0), .string ((rd_T26 x3_1 (ji28)).f1), .int .u8 ((rd_T26 x3_1 (ji28)).f2), .int .u32 0]) ?_ 3 _ rfl; (with_reducible repeat (first | refine blk_drewN ?_ _ | refine blk_drew ?_ | refine blk_alloc ?_ _)); refine blk_put (cs := #[.int .u32 ((rd_T26 x3_1 (ji28)).f0), .string ((rd_T26 x3_1 (ji28)).f1), .int .u8 0, .int .u32 0]) ?_ 2 _ rfl; (with_reducible repeat (first | refine blk_drewN ?_ _ | refine blk_drew ?_ | refine blk_alloc ?_ _)); refine blk_put (cs := #[.int .u32 ((rd_T26 x3_1 (ji28)).f0), .string (⟨#[]⟩ : ByteArray), .int .u8 0, .int .u32 0]) ?_ 1 _ rfl; (with_reducible repeat (first | refine blk_drewN ?_ _ | refine blk_drew ?_ | refine blk_alloc ?_ _)); refine blk_put (cs := #[.int .u32 0, .string (⟨#[]⟩ : ByteArray), .int .u8 0, .int .u32 0]) ?_ 0 _ rfl; (with_reducible repeat (first | refine blk_drewN ?_ _ | refine blk_drew ?_ | refine blk_alloc ?_ _)); exact BK264.out) hb); have n4_ := Aside0.mk (below_step (by repeat (first | (with_reducible first | exact HB.out | apply below_alloc | apply pw_below_drewN | apply below_drew1 | refine below_set ?_ GE260.out | refine below_set ?_ GE262.out | refine below_set ?_ GE264.out) | exact HB.out)) hb); clear HO_3; clear BK260; clear BK262; clear BK264; clear HB; have HO_3 := n0_; have BK260 := n1_; have BK262 := n2_; have BK264 := n3_; have HB := n4_; clear n0_ n1_ n2_ n3_ n4_; (try clear hb); (try clear hb2); (try clear hk); (try clear hi)))
               have n0_ := Aside0.mk (Kd.R_drew HO_3.out)
               have n1_ := Aside0.mk (blk_drew BK260.out)
               have n2_ := Aside0.mk (blk_drew BK262.out)
               have n3_ := Aside0.mk (blk_drew BK264.out)
               have n4_ := Aside0.mk (below_drew1 HB.out)
               clear HO_3
               clear BK260
               clear BK262
               clear BK264
               clear HB
               have HO_3 := n0_
               have BK260 := n1_
               have BK262 := n2_
               have BK264 := n3_
               have HB := n4_
               clear n0_ n1_ n2_ n3_ n4_
               refine start_ (n := 8) (S := fun w' => w'.cell? ⟨gb264, 0, none⟩ = some (.int .u32 ((rd_T26 x3_1 (ji28)).f0)) ∧ w'.cell? ⟨gb264, 1, none⟩ = some (.string ((rd_T26 x3_1 (ji28)).f1)) ∧ w'.cell? ⟨gb264, 2, none⟩ = some (.int .u8 ((rd_T26 x3_1 (ji28)).f2)) ∧ w'.cell? ⟨gb264, 3, none⟩ = some (.int .u32 ((rd_T26 x3_1 (ji28)).f3))) (ds := []) #[false, false, false, false, false, false, false, false] (by kernel_rfl) rfl rfl ⟨(blk_cell BK264.out 0).trans rfl, (blk_cell BK264.out 1).trans rfl, (blk_cell BK264.out 2).trans rfl, (blk_cell BK264.out 3).trans rfl⟩ (fun hHeld => ?_); refine with_tabW transposallaw06_Make.tab12 transposallaw06_Make.bits12 (fun HT_ HW_ => ?_)
               generalize w41.drew = w42 at HO_3 BK260 BK262 BK264 HB hHeld ⊢
               refine pure_ (i := 0) (N := some 56) (v := ?_) (a' := ?_) #[true, false, false, false, false, false, false, false] rfl rfl (any_of HT_.out (by kernel_rfl)) (fun _ _ _ h => h) (Or.inl ⟨by rfl, ?_⟩) ?_ ?_
               rotate_left
               ·intro w'
                go_simp
                with_reducible rfl
               rotate_left
               ·simp only [Act.put, List.setIfInBounds_toArray, List.set_cons_zero, List.set_cons_succ, i64_w, i32_w]
                rfl
               refine pure_ (i := 2) (N := some 58) (v := ?_) (a' := ?_) #[true, false, true, false, false, false, false, false] rfl rfl (any_of HT_.out (by kernel_rfl)) (fun _ _ _ h => h) (Or.inl ⟨by rfl, ?_⟩) ?_ ?_
               rotate_left
               ·intro w'
                go_simp
                with_reducible rfl
               rotate_left
               ·simp only [Act.put, List.setIfInBounds_toArray, List.set_cons_zero, List.set_cons_succ, i64_w, i32_w]
                rfl
               refine take_ (i := 1) (N := some 57) (v := ?_) (a' := ?_) #[true, true, true, false, false, false, false, false] rfl rfl (take_ofW HT_.out HW_.out (by kernel_rfl)) (fun _ _ _ h => h) (Or.inl ⟨by rfl, ?_⟩) hHeld ?_ ?_
               rotate_left
               ·rintro w' ⟨s0, s1, s2, s3⟩
                go_simp
                with_reducible rfl
               rotate_left
               ·simp only [Act.put, List.setIfInBounds_toArray, List.set_cons_zero, List.set_cons_succ, i64_w, i32_w]
                rfl
               refine pure_ (i := 4) (N := some 60) (v := ?_) (a' := ?_) #[true, true, true, false, true, false, false, false] rfl rfl (any_of HT_.out (by kernel_rfl)) (fun _ _ _ h => h) (Or.inl ⟨by rfl, ?_⟩) ?_ ?_
               rotate_left
               ·intro w'
                go_simp
                with_reducible rfl
               rotate_left
               ·simp only [Act.put, List.setIfInBounds_toArray, List.set_cons_zero, List.set_cons_succ, i64_w, i32_w]
                rfl
               refine take_ (i := 3) (N := some 59) (v := ?_) (a' := ?_) #[true, true, true, true, true, false, false, false] rfl rfl (take_ofW HT_.out HW_.out (by kernel_rfl)) (fun _ _ _ h => h) (Or.inl ⟨by rfl, ?_⟩) hHeld ?_ ?_
               rotate_left
               ·rintro w' ⟨s0, s1, s2, s3⟩
                go_simp
                with_reducible rfl
               rotate_left
               ·simp only [Act.put, List.setIfInBounds_toArray, List.set_cons_zero, List.set_cons_succ, i64_w, i32_w]
                rfl
               refine one_ (i := 5) (N := none) #[true, true, true, true, true, true, false, false] rfl rfl (one_of HT_.out (by kernel_rfl)) (by decide) (fun K hK => ?_)
               have hs43 : w42.cell? ⟨gb262, 3, none⟩ = some (.int .u32 0) := (blk_cell BK262.out 3).trans rfl
               have hfs43 := blk_frozen BK262.out 3
               have hns43_0 := NB260_262.out
               have hns43_2 := NB264_262.out
               have hms43_0 := NB262_260.out
               have hms43_2 := NB262_264.out
               refine skip_ (w1 := ?_) (by rfl) rfl ?_ ?_
               rotate_left
               ·go_simp
                rfl
               refine hK.out _ _ ⟨((cell_far (p := ⟨gb262, _, none⟩) NB264_262.out _).trans (hHeld.1)), ((cell_far (p := ⟨gb262, _, none⟩) NB264_262.out _).trans (hHeld.2.1)), ((cell_far (p := ⟨gb262, _, none⟩) NB264_262.out _).trans (hHeld.2.2.1)), ((cell_far (p := ⟨gb262, _, none⟩) NB264_262.out _).trans (hHeld.2.2.2))⟩ (fun hHeld => ?_)
               clear hK K
               refine pure_ (i := 6) (N := some 61) (v := ?_) (a' := ?_) #[true, true, true, true, true, true, true, false] rfl rfl (any_of HT_.out (by kernel_rfl)) (fun _ _ _ h => h) (Or.inl ⟨by rfl, ?_⟩) ?_ ?_
               rotate_left
               ·intro w'
                go_simp
                with_reducible rfl
               rotate_left
               ·simp only [Act.put, List.setIfInBounds_toArray, List.set_cons_zero, List.set_cons_succ, i64_w, i32_w]
                rfl
               refine one_ (i := 7) (N := none) #[true, true, true, true, true, true, true, true] rfl rfl (one_of HT_.out (by kernel_rfl)) (by decide) (fun K hK => ?_)
               have hs44 : w42.cell? ⟨gb262, 2, none⟩ = some (.int .u8 (Int.tmod ((rd_T46 l0 x11_1).f1) 5)) := (blk_cell BK262.out 2).trans rfl
               have hfs44 := blk_frozen BK262.out 2
               have hns44_0 := NB260_262.out
               have hns44_2 := NB264_262.out
               have hms44_0 := NB262_260.out
               have hms44_2 := NB262_264.out
               refine skip_ (w1 := ?_) (by rfl) rfl ?_ ?_
               rotate_left
               ·go_simp
                rfl
               refine hK.out _ _ ⟨((cell_far (p := ⟨gb262, _, none⟩) NB264_262.out _).trans (hHeld.1)), ((cell_far (p := ⟨gb262, _, none⟩) NB264_262.out _).trans (hHeld.2.1)), ((cell_far (p := ⟨gb262, _, none⟩) NB264_262.out _).trans (hHeld.2.2.1)), ((cell_far (p := ⟨gb262, _, none⟩) NB264_262.out _).trans (hHeld.2.2.2))⟩ (fun hHeld => ?_)
               clear hK K
               refine done_ (done_of HT_.out (by kernel_rfl)) ?_
               have hcz45_0 : w42.cell? ⟨gb262, 0, none⟩ = some (.int .u32 ((x4_1 + (1 + (Int.tmod ((rd_T46 l0 x11_1).f0) 4))) % 4294967296)) := (blk_cell BK262.out 0).trans rfl
               have hcz45_1 : w42.cell? ⟨gb262, 1, none⟩ = some (.string t261) := (blk_cell BK262.out 1).trans rfl
               have hcz45_2 : w42.cell? ⟨gb262, 2, none⟩ = some (.int .u8 (Int.tmod ((rd_T46 l0 x11_1).f1) 5)) := (blk_cell BK262.out 2).trans rfl
               have hcz45_3 : w42.cell? ⟨gb262, 3, none⟩ = some (.int .u32 0) := (blk_cell BK262.out 3).trans rfl
               have hfz45_0 := blk_frozen BK262.out 0
               have hfz45_1 := blk_frozen BK262.out 1
               have hfz45_2 := blk_frozen BK262.out 2
               have hfz45_3 := blk_frozen BK262.out 3
               try go_wp2_with (first | ((with_reducible refine gate_builtin (b := .append) (xs := #[.tmp 62, .tmp 64]) rfl ?_); at_builtin; refine Kd.R_append k26 (w0 := w) w.heap.size rfl (.tmp 62) (.tmp 64) 29 26 (.agg #[(.int .u32 0), (.string ⟨#[]⟩), (.int .u8 0), (.int .u32 0)]) 32 rfl Tryz.underlying29 info26 rfl (by decide) (by omega) (.slice (some ad263) x3_1.length co36) x3_1 (⟨((x4_1 + (1 + (Int.tmod ((rd_T46 l0 x11_1).f0) 4))) % 4294967296), t261, (rd_T26 x3_1 (ji28)).f2, (rd_T26 x3_1 (ji28)).f0⟩ : S26) [.int .u32 ((x4_1 + (1 + (Int.tmod ((rd_T46 l0 x11_1).f0) 4))) % 4294967296), .string t261, .int .u8 ((rd_T26 x3_1 (ji28)).f2), .int .u32 ((rd_T26 x3_1 (ji28)).f0)] (fun k_ => k_ ≠ gb262 ∧ k_ ≠ gb264) (fun _ => False) rfl (by first | (go_simp; done) | (go_simp; rfl)) ?aP (fun _ hk => hk.elim) ?aF ?aO ?aB ?aS ?aL ?_; (case aP => exact k26_mkM _ _ _ (⟨((x4_1 + (1 + (Int.tmod ((rd_T46 l0 x11_1).f0) 4))) % 4294967296), t261, (rd_T26 x3_1 (ji28)).f2, (rd_T26 x3_1 (ji28)).f0⟩ : S26)); (case aB => exact (by repeat (first | (with_reducible first | exact HB.out | apply below_alloc | apply pw_below_drewN | apply below_drew1 | refine below_set ?_ GE260.out | refine below_set ?_ GE262.out | refine below_set ?_ GE264.out) | exact HB.out))); (case aF => exact (fun k_ hk => ⟨Kd.freshB (g := gb262) (o := .cells #[.int .u32 ((x4_1 + (1 + (Int.tmod ((rd_T46 l0 x11_1).f0) 4))) % 4294967296), .string t261, .int .u8 ((rd_T26 x3_1 (ji28)).f2), .int .u32 ((rd_T26 x3_1 (ji28)).f0)] 26 (0, 0)) (by (with_reducible repeat (first | refine blk_drewN ?_ _ | refine blk_drew ?_ | refine blk_alloc ?_ _)); refine blk_put (cs := #[.int .u32 ((x4_1 + (1 + (Int.tmod ((rd_T46 l0 x11_1).f0) 4))) % 4294967296), .string t261, .int .u8 (Int.tmod ((rd_T46 l0 x11_1).f1) 5), .int .u32 ((rd_T26 x3_1 (ji28)).f0)]) ?_ 2 _ rfl; (with_reducible repeat (first | refine blk_drewN ?_ _ | refine blk_drew ?_ | refine blk_alloc ?_ _)); refine blk_put (cs := #[.int .u32 ((x4_1 + (1 + (Int.tmod ((rd_T46 l0 x11_1).f0) 4))) % 4294967296), .string t261, .int .u8 (Int.tmod ((rd_T46 l0 x11_1).f1) 5), .int .u32 0]) ?_ 3 _ rfl; (with_reducible repeat (first | refine blk_drewN ?_ _ | refine blk_drew ?_ | refine blk_alloc ?_ _)); exact BK262.out) k_ hk, Kd.freshB (g := gb264) (o := .cells #[.int .u32 ((rd_T26 x3_1 (ji28)).f0), .string ((rd_T26 x3_1 (ji28)).f1), .int .u8 ((rd_T26 x3_1 (ji28)).f2), .int .u32 ((rd_T26 x3_1 (ji28)).f3)] 26 (0, 0)) (by (with_reducible repeat (first | refine blk_drewN ?_ _ | refine blk_drew ?_ | refine blk_alloc ?_ _)); refine blk_far ?_ NB264_262.out _; (with_reducible repeat (first | refine blk_drewN ?_ _ | refine blk_drew ?_ | refine blk_alloc ?_ _)); refine blk_far ?_ NB264_262.out _; (with_reducible repeat (first | refine blk_drewN ?_ _ | refine blk_drew ?_ | refine blk_alloc ?_ _)); exact BK264.out) k_ hk⟩)); (case aO => exact (by (with_reducible repeat (first | apply Kd.R_alloc | apply Kd.R_drewN | apply Kd.R_drew)); exact Kd.R_mono (Kd.R_far (p := ⟨gb262, 2, none⟩) (Kd.R_far (p := ⟨gb262, 3, none⟩) (Kd.R_mono HO_3.out (fun k_ hk => (⟨hk, hk.1⟩ : _ ∧ k_ ≠ gb262))) (fun _ hk => hk.2) (.int .u32 ((rd_T26 x3_1 (ji28)).f0))) (fun _ hk => hk.2) (.int .u8 ((rd_T26 x3_1 (ji28)).f2))) (fun _ hk => ⟨hk.1.1, hk.1.2⟩))); (case aS => exact (below_size (by repeat (first | (with_reducible first | exact HB.out | apply below_alloc | apply pw_below_drewN | apply below_drew1 | refine below_set ?_ GE260.out | refine below_set ?_ GE262.out | refine below_set ?_ GE264.out) | exact HB.out)))); (case aL => have := LMc33.out; omega); intro v267 w46 ho hb hg hat; rw [← Ny266.out] at ho; have n0_ := Aside0.mk (blk_grown (g := gb260) (o := .cells #[.int .u8 ((rd_T46 l0 x11_1).f0), .int .u8 ((rd_T46 l0 x11_1).f1), .int .u8 ((rd_T46 l0 x11_1).f2), .int .u8 ((rd_T46 l0 x11_1).f3)] 46 (0, 0)) (by (with_reducible repeat (first | refine blk_drewN ?_ _ | refine blk_drew ?_ | refine blk_alloc ?_ _)); refine blk_far ?_ NB260_262.out _; (with_reducible repeat (first | refine blk_drewN ?_ _ | refine blk_drew ?_ | refine blk_alloc ?_ _)); refine blk_far ?_ NB260_262.out _; (with_reducible repeat (first | refine blk_drewN ?_ _ | refine blk_drew ?_ | refine blk_alloc ?_ _)); exact BK260.out) hg (Kd.R_ne HO_3.out BK260.out (by decide))); have n1_ := Aside0.mk (blk_grown (g := gb262) (o := .cells #[.int .u32 ((x4_1 + (1 + (Int.tmod ((rd_T46 l0 x11_1).f0) 4))) % 4294967296), .string t261, .int .u8 ((rd_T26 x3_1 (ji28)).f2), .int .u32 ((rd_T26 x3_1 (ji28)).f0)] 26 (0, 0)) (by (with_reducible repeat (first | refine blk_drewN ?_ _ | refine blk_drew ?_ | refine blk_alloc ?_ _)); refine blk_put (cs := #[.int .u32 ((x4_1 + (1 + (Int.tmod ((rd_T46 l0 x11_1).f0) 4))) % 4294967296), .string t261, .int .u8 (Int.tmod ((rd_T46 l0 x11_1).f1) 5), .int .u32 ((rd_T26 x3_1 (ji28)).f0)]) ?_ 2 _ rfl; (with_reducible repeat (first | refine blk_drewN ?_ _ | refine blk_drew ?_ | refine blk_alloc ?_ _)); refine blk_put (cs := #[.int .u32 ((x4_1 + (1 + (Int.tmod ((rd_T46 l0 x11_1).f0) 4))) % 4294967296), .string t261, .int .u8 (Int.tmod ((rd_T46 l0 x11_1).f1) 5), .int .u32 0]) ?_ 3 _ rfl; (with_reducible repeat (first | refine blk_drewN ?_ _ | refine blk_drew ?_ | refine blk_alloc ?_ _)); exact BK262.out) hg (Kd.R_away HO_3.out (fun _ hk => hk.1))); have n2_ := Aside0.mk (blk_grown (g := gb264) (o := .cells #[.int .u32 ((rd_T26 x3_1 (ji28)).f0), .string ((rd_T26 x3_1 (ji28)).f1), .int .u8 ((rd_T26 x3_1 (ji28)).f2), .int .u32 ((rd_T26 x3_1 (ji28)).f3)] 26 (0, 0)) (by (with_reducible repeat (first | refine blk_drewN ?_ _ | refine blk_drew ?_ | refine blk_alloc ?_ _)); refine blk_far ?_ NB264_262.out _; (with_reducible repeat (first | refine blk_drewN ?_ _ | refine blk_drew ?_ | refine blk_alloc ?_ _)); refine blk_far ?_ NB264_262.out _; (with_reducible repeat (first | refine blk_drewN ?_ _ | refine blk_drew ?_ | refine blk_alloc ?_ _)); exact BK264.out) hg (Kd.R_away HO_3.out (fun _ hk => hk.2))); have n3_ := Aside0.mk (hb); have n4_ := Aside0.mk (ho); clear BK260; clear BK262; clear BK264; clear HB; clear HO_3; have BK260 := n0_; have BK262 := n1_; have BK264 := n2_; have HB := n3_; have HO268 := n4_; clear n0_ n1_ n2_ n3_ n4_; clear ho hb hg hat))
               go_roundg kj8
               case measure => have := HK1.out; have := HJ8.out; omega
               case rel => exact ⟨(y266), (((x4_1 + (1 + (Int.tmod ((rd_T46 l0 x11_1).f0) 4))) % 4294967296)), (wrap64 (x11_1 + 1)), (by first | rfl | (simp; done) | (simp [*]; done)), (by first | rfl | (simp; done) | (simp [*]; done)), H', ⟨by have := HK1.out; have := HJ8.out; omega⟩, ⟨by (with_reducible repeat (first | apply Kd.R_alloc | apply Kd.R_drewN | apply Kd.R_drew)); exact Kd.R_mono HO268.out (fun _ hk => trivial)⟩, ⟨by repeat (first | (with_reducible first | exact HB.out | apply below_alloc | apply pw_below_drewN | apply below_drew1 | refine below_set ?_ GE260.out | refine below_set ?_ GE262.out | refine below_set ?_ GE264.out) | exact HB.out)⟩⟩
              ·rw [if_neg c33] at H
               exact absurd H (by simp)
             ·rw [if_neg c32] at H
              have c32b0 : decide (t265 < 11) = false := decide_eq_false c32
              clear c32
              by_cases c47 : x3_1.length < 4398046511104
              ·rw [if_pos c47] at H
               have LMc47 := Aside0.mk c47
               clear c47
               obtain ⟨y269, hy269⟩ : ∃ y_ : List (S26), y_ = (x3_1 ++ [(⟨((x4_1 + (1 + (Int.tmod ((rd_T46 l0 x11_1).f0) 4))) % 4294967296), t261, (Int.tmod ((rd_T46 l0 x11_1).f1) 5), 0⟩ : S26)]) := ⟨_, rfl⟩
               replace H : (transposallaw06_Make.l0 kj8 y269 ((x4_1 + (1 + (Int.tmod ((rd_T46 l0 x11_1).f0) 4))) % 4294967296) l0 (l0.length : Int) (wrap64 (x11_1 + 1))) = some r := by first | (rw [hy269]; with_reducible exact H) | (have H2_ := (Option.bind_some _ _).symm.trans H; rw [hy269]; with_reducible exact H2_) | (have H2_ := (Option.bind_some _ _).symm.trans H; with_reducible exact H2_) | with_reducible exact H | (rw [hy269]; exact H) | exact H
               have Ny269 := Aside0.mk hy269
               clear hy269
               have H' := Aside0.mk H
               clear H
               have hnb48 := NB260_262.out
               have hnc48 := NB262_260.out
               have hcz49_0 : wc.cell? ⟨gb260, 0, none⟩ = some (.int .u8 ((rd_T46 l0 x11_1).f0)) := (blk_cell BK260.out 0).trans rfl
               have hcz49_1 : wc.cell? ⟨gb260, 1, none⟩ = some (.int .u8 ((rd_T46 l0 x11_1).f1)) := (blk_cell BK260.out 1).trans rfl
               have hcz49_2 : wc.cell? ⟨gb260, 2, none⟩ = some (.int .u8 ((rd_T46 l0 x11_1).f2)) := (blk_cell BK260.out 2).trans rfl
               have hcz49_3 : wc.cell? ⟨gb260, 3, none⟩ = some (.int .u8 ((rd_T46 l0 x11_1).f3)) := (blk_cell BK260.out 3).trans rfl
               have hfz49_0 := blk_frozen BK260.out 0
               have hfz49_1 := blk_frozen BK260.out 1
               have hfz49_2 := blk_frozen BK260.out 2
               have hfz49_3 := blk_frozen BK260.out 3
               obtain ⟨Ao50, co50, eo50⟩ := Kd.R_slice HO_3.out
               subst eo50
               have p263 : 0 ≤ ((ji28) : Int) := of_decide_eq_true (by first | (with_reducible assumption) | assumption)
               have q263 : (ji28) < (x3_1.length : Int) := of_decide_eq_true (by first | (with_reducible assumption) | assumption)
               obtain ⟨ad263, e263, hx263_0, hx263_1, hx263_2, hx263_3⟩ := at_T26 (Kd.R_reads' HO_3.out).2.2 (ji28) p263 q263
               cases e263
               replace p263 := eq_true p263
               replace q263 := eq_true q263
               go_wp2_with (first | ((with_reducible refine gate_dst (N := 8) rfl ?_); refine box_event ?hg (N := 8) ?hd (cs := #[.int .u32 0, .string (⟨#[]⟩ : ByteArray), .int .u8 0, .int .u32 0]) (t := 26) ?hr ?_; (case hd => rfl); (case hg => rfl); (case hr => first | (go_simp; done) | (go_simp; rfl)); intro gb264 hg w51 hbox hb; have n0_ := Aside0.mk (Kd.R_below (Kd.R_elderB (by (with_reducible repeat (first | apply Kd.R_alloc | apply Kd.R_drewN | apply Kd.R_drew)); exact HO_3.out) gb264 (Nat.le_of_eq hg.symm)) hb); have n1_ := Aside0.mk (blk_below (g := gb260) (o := .cells #[.int .u8 ((rd_T46 l0 x11_1).f0), .int .u8 ((rd_T46 l0 x11_1).f1), .int .u8 ((rd_T46 l0 x11_1).f2), .int .u8 ((rd_T46 l0 x11_1).f3)] 46 (0, 0)) (by (with_reducible repeat (first | refine blk_drewN ?_ _ | refine blk_drew ?_ | refine blk_alloc ?_ _)); exact BK260.out) hb); have n2_ := Aside0.mk (blk_below (g := gb262) (o := .cells #[.int .u32 ((x4_1 + (1 + (Int.tmod ((rd_T46 l0 x11_1).f0) 4))) % 4294967296), .string t261, .int .u8 (Int.tmod ((rd_T46 l0 x11_1).f1) 5), .int .u32 0] 26 (0, 0)) (by (with_reducible repeat (first | refine blk_drewN ?_ _ | refine blk_drew ?_ | refine blk_alloc ?_ _)); exact BK262.out) hb); have n3_ := Aside0.mk (below_step (by repeat (first | (with_reducible first | exact HB.out | apply below_alloc | apply pw_below_drewN | apply below_drew1 | refine below_set ?_ GE260.out | refine below_set ?_ GE262.out) | exact HB.out)) hb); have n4_ := Aside0.mk (hbox); have n5_ := Aside0.mk ((by rw [hg]; exact (below_size (by repeat (first | (with_reducible first | exact HB.out | apply below_alloc | apply pw_below_drewN | apply below_drew1 | refine below_set ?_ GE260.out | refine below_set ?_ GE262.out) | exact HB.out))) : w.heap.size ≤ gb264)); have n6_ := Aside0.mk ((by rw [hg]; exact (below_size (by repeat (first | (with_reducible first | exact HB.out | apply below_alloc | apply pw_below_drewN | apply below_drew1 | refine below_set ?_ GE260.out | refine below_set ?_ GE262.out) | exact HB.out))) : w.heap.size ≤ gb264)); have n7_ := Aside0.mk ((by rw [hg]; exact Nat.ne_of_lt (blk_lt (g := gb260) (o := .cells #[.int .u8 ((rd_T46 l0 x11_1).f0), .int .u8 ((rd_T46 l0 x11_1).f1), .int .u8 ((rd_T46 l0 x11_1).f2), .int .u8 ((rd_T46 l0 x11_1).f3)] 46 (0, 0)) (by (with_reducible repeat (first | refine blk_drewN ?_ _ | refine blk_drew ?_ | refine blk_alloc ?_ _)); exact BK260.out)) : gb260 ≠ gb264)); have n8_ := Aside0.mk ((by rw [hg]; exact Nat.ne_of_gt (blk_lt (g := gb260) (o := .cells #[.int .u8 ((rd_T46 l0 x11_1).f0), .int .u8 ((rd_T46 l0 x11_1).f1), .int .u8 ((rd_T46 l0 x11_1).f2), .int .u8 ((rd_T46 l0 x11_1).f3)] 46 (0, 0)) (by (with_reducible repeat (first | refine blk_drewN ?_ _ | refine blk_drew ?_ | refine blk_alloc ?_ _)); exact BK260.out)) : gb264 ≠ gb260)); have n9_ := Aside0.mk ((by rw [hg]; exact Nat.ne_of_lt (blk_lt (g := gb262) (o := .cells #[.int .u32 ((x4_1 + (1 + (Int.tmod ((rd_T46 l0 x11_1).f0) 4))) % 4294967296), .string t261, .int .u8 (Int.tmod ((rd_T46 l0 x11_1).f1) 5), .int .u32 0] 26 (0, 0)) (by (with_reducible repeat (first | refine blk_drewN ?_ _ | refine blk_drew ?_ | refine blk_alloc ?_ _)); exact BK262.out)) : gb262 ≠ gb264)); have n10_ := Aside0.mk ((by rw [hg]; exact Nat.ne_of_gt (blk_lt (g := gb262) (o := .cells #[.int .u32 ((x4_1 + (1 + (Int.tmod ((rd_T46 l0 x11_1).f0) 4))) % 4294967296), .string t261, .int .u8 (Int.tmod ((rd_T46 l0 x11_1).f1) 5), .int .u32 0] 26 (0, 0)) (by (with_reducible repeat (first | refine blk_drewN ?_ _ | refine blk_drew ?_ | refine blk_alloc ?_ _)); exact BK262.out)) : gb264 ≠ gb262)); clear HO_3; clear BK260; clear BK262; clear HB; have HO_3 := n0_; have BK260 := n1_; have BK262 := n2_; have HB := n3_; have BK264 := n4_; have GW264 := n5_; have GE264 := n6_; have NB260_264 := n7_; have NB264_260 := n8_; have NB262_264 := n9_; have NB264_262 := n10_; clear n0_ n1_ n2_ n3_ n4_ n5_ n6_ n7_ n8_ n9_ n10_; clear hb hbox hg; have hnb52 := NB264_260.out; have hnc52 := NB260_264.out; have hnb53 := NB264_262.out; have hnc53 := NB262_264.out; have hcz54_0 : w51.cell? ⟨gb264, 0, none⟩ = some (.int .u32 0) := (blk_cell BK264.out 0).trans rfl; have hcz54_1 : w51.cell? ⟨gb264, 1, none⟩ = some (.string (⟨#[]⟩ : ByteArray)) := (blk_cell BK264.out 1).trans rfl; have hcz54_2 : w51.cell? ⟨gb264, 2, none⟩ = some (.int .u8 0) := (blk_cell BK264.out 2).trans rfl; have hcz54_3 : w51.cell? ⟨gb264, 3, none⟩ = some (.int .u32 0) := (blk_cell BK264.out 3).trans rfl; have hfz54_0 := blk_frozen BK264.out 0; have hfz54_1 := blk_frozen BK264.out 1; have hfz54_2 := blk_frozen BK264.out 2; have hfz54_3 := blk_frozen BK264.out 3) | ((with_reducible refine gate_callee (f := 22) rfl ?_); refine goesL_ (some 54) rfl rfl Tryz.func22 (by kernel_rfl) rfl #[.slice (some ad263) x3_1.length co50, .int .u32 ((rd_T26 x3_1 (ji28)).f0)] rfl (by (try simp only [List.map_toArray, List.map_cons, List.map_nil]); first | done | (simp only [hji28]; rfl) | rfl | (simp only [List.length_drop, List.length_take]; rfl)) ?_; (with_reducible refine (transposallaw06_deep.calls kj8 _ _ x3_1 ((rd_T26 x3_1 (ji28)).f0) t265 _ ?side1 ?side2 A31.out).mono ?_); (case side1 => refine (Kd.R_reads' (e := 26) (base := w.heap.size) (ok := fun k_ => (k_ ≠ gb262 ∧ k_ ≠ gb264)) (n := x3_1.length) (c := co50) ?_).2.2; exact (by (with_reducible repeat (first | apply Kd.R_alloc | apply Kd.R_drewN | apply Kd.R_drew)); exact (Kd.R_mono (Kd.R_far (p := ⟨gb264, 3, none⟩) (Kd.R_far (p := ⟨gb264, 2, none⟩) (Kd.R_far (p := ⟨gb264, 1, none⟩) (Kd.R_far (p := ⟨gb264, 0, none⟩) (Kd.R_mono HO_3.out (fun k_ hk => (⟨hk, hk.2⟩ : _ ∧ k_ ≠ gb264))) (fun _ hk => hk.2) (.int .u32 ((rd_T26 x3_1 (ji28)).f0))) (fun _ hk => hk.2) (.string ((rd_T26 x3_1 (ji28)).f1))) (fun _ hk => hk.2) (.int .u8 ((rd_T26 x3_1 (ji28)).f2))) (fun _ hk => hk.2) (.int .u32 ((rd_T26 x3_1 (ji28)).f3))) (fun _ h_ => h_.1)))); (case side2 => exact (Kd.R_reads' HO_3.out).2.1); rintro e w55 ⟨rfl, hb⟩; refine ⟨_, rfl, ?_⟩; have n0_ := Aside0.mk (Kd.R_below (by (with_reducible repeat (first | apply Kd.R_alloc | apply Kd.R_drewN | apply Kd.R_drew)); exact (Kd.R_mono (Kd.R_far (p := ⟨gb264, 3, none⟩) (Kd.R_far (p := ⟨gb264, 2, none⟩) (Kd.R_far (p := ⟨gb264, 1, none⟩) (Kd.R_far (p := ⟨gb264, 0, none⟩) (Kd.R_mono HO_3.out (fun k_ hk => (⟨hk, hk.2⟩ : _ ∧ k_ ≠ gb264))) (fun _ hk => hk.2) (.int .u32 ((rd_T26 x3_1 (ji28)).f0))) (fun _ hk => hk.2) (.string ((rd_T26 x3_1 (ji28)).f1))) (fun _ hk => hk.2) (.int .u8 ((rd_T26 x3_1 (ji28)).f2))) (fun _ hk => hk.2) (.int .u32 ((rd_T26 x3_1 (ji28)).f3))) (fun _ h_ => h_.1))) hb); have n1_ := Aside0.mk (blk_below (g := gb260) (o := .cells #[.int .u8 ((rd_T46 l0 x11_1).f0), .int .u8 ((rd_T46 l0 x11_1).f1), .int .u8 ((rd_T46 l0 x11_1).f2), .int .u8 ((rd_T46 l0 x11_1).f3)] 46 (0, 0)) (by (with_reducible repeat (first | refine blk_drewN ?_ _ | refine blk_drew ?_ | refine blk_alloc ?_ _)); refine blk_far ?_ NB260_264.out _; (with_reducible repeat (first | refine blk_drewN ?_ _ | refine blk_drew ?_ | refine blk_alloc ?_ _)); refine blk_far ?_ NB260_264.out _; (with_reducible repeat (first | refine blk_drewN ?_ _ | refine blk_drew ?_ | refine blk_alloc ?_ _)); refine blk_far ?_ NB260_264.out _; (with_reducible repeat (first | refine blk_drewN ?_ _ | refine blk_drew ?_ | refine blk_alloc ?_ _)); refine blk_far ?_ NB260_264.out _; (with_reducible repeat (first | refine blk_drewN ?_ _ | refine blk_drew ?_ | refine blk_alloc ?_ _)); exact BK260.out) hb); have n2_ := Aside0.mk (blk_below (g := gb262) (o := .cells #[.int .u32 ((x4_1 + (1 + (Int.tmod ((rd_T46 l0 x11_1).f0) 4))) % 4294967296), .string t261, .int .u8 (Int.tmod ((rd_T46 l0 x11_1).f1) 5), .int .u32 0] 26 (0, 0)) (by (with_reducible repeat (first | refine blk_drewN ?_ _ | refine blk_drew ?_ | refine blk_alloc ?_ _)); refine blk_far ?_ NB262_264.out _; (with_reducible repeat (first | refine blk_drewN ?_ _ | refine blk_drew ?_ | refine blk_alloc ?_ _)); refine blk_far ?_ NB262_264.out _; (with_reducible repeat (first | refine blk_drewN ?_ _ | refine blk_drew ?_ | refine blk_alloc ?_ _)); refine blk_far ?_ NB262_264.out _; (with_reducible repeat (first | refine blk_drewN ?_ _ | refine blk_drew ?_ | refine blk_alloc ?_ _)); refine blk_far ?_ NB262_264.out _; (with_reducible repeat (first | refine blk_drewN ?_ _ | refine blk_drew ?_ | refine blk_alloc ?_ _)); exact BK262.out) hb); have n3_ := Aside0.mk (blk_below (g := gb264) (o := .cells #[.int .u32 ((rd_T26 x3_1 (ji28)).f0), .string ((rd_T26 x3_1 (ji28)).f1), .int .u8 ((rd_T26 x3_1 (ji28)).f2), .int .u32 ((rd_T26 x3_1 (ji28)).f3)] 26 (0, 0)) (by (with_reducible repeat (first | refine blk_drewN ?_ _ | refine blk_drew ?_ | refine blk_alloc ?_ _)); refine blk_put (cs := #[.int .u32 ((rd_T26 x3_1 (ji28)).f0), .string ((rd_T26 x3_1 (ji28)).f1), .int .u8 ((rd_T26 x3_1 (ji28)).f2), .int .u32 0]) ?_ 3 _ rfl; (with_reducible repeat (first | refine blk_drewN ?_ _ | refine blk_drew ?_ | refine blk_alloc ?_ _)); refine blk_put (cs := #[.int .u32 ((rd_T26 x3_1 (ji28)).f0), .string ((rd_T26 x3_1 (ji28)).f1), .int .u8 0, .int .u32 0]) ?_ 2 _ rfl; (with_reducible repeat (first | refine blk_drewN ?_ _ | refine blk_drew ?_ | refine blk_alloc ?_ _)); refine blk_put (cs := #[.int .u32 ((rd_T26 x3_1 (ji28)).f0), .string (⟨#[]⟩ : ByteArray), .int .u8 0, .int .u32 0]) ?_ 1 _ rfl; (with_reducible repeat (first | refine blk_drewN ?_ _ | refine blk_drew ?_ | refine blk_alloc ?_ _)); refine blk_put (cs := #[.int .u32 0, .string (⟨#[]⟩ : ByteArray), .int .u8 0, .int .u32 0]) ?_ 0 _ rfl; (with_reducible repeat (first | refine blk_drewN ?_ _ | refine blk_drew ?_ | refine blk_alloc ?_ _)); exact BK264.out) hb); have n4_ := Aside0.mk (below_step (by repeat (first | (with_reducible first | exact HB.out | apply below_alloc | apply pw_below_drewN | apply below_drew1 | refine below_set ?_ GE260.out | refine below_set ?_ GE262.out | refine below_set ?_ GE264.out) | exact HB.out)) hb); clear HO_3; clear BK260; clear BK262; clear BK264; clear HB; have HO_3 := n0_; have BK260 := n1_; have BK262 := n2_; have BK264 := n3_; have HB := n4_; clear n0_ n1_ n2_ n3_ n4_; (try clear hb); (try clear hb2); (try clear hk); (try clear hi); have hcz56_0 : w55.cell? ⟨gb262, 0, none⟩ = some (.int .u32 ((x4_1 + (1 + (Int.tmod ((rd_T46 l0 x11_1).f0) 4))) % 4294967296)) := (blk_cell BK262.out 0).trans rfl; have hcz56_1 : w55.cell? ⟨gb262, 1, none⟩ = some (.string t261) := (blk_cell BK262.out 1).trans rfl; have hcz56_2 : w55.cell? ⟨gb262, 2, none⟩ = some (.int .u8 (Int.tmod ((rd_T46 l0 x11_1).f1) 5)) := (blk_cell BK262.out 2).trans rfl; have hcz56_3 : w55.cell? ⟨gb262, 3, none⟩ = some (.int .u32 0) := (blk_cell BK262.out 3).trans rfl; have hfz56_0 := blk_frozen BK262.out 0; have hfz56_1 := blk_frozen BK262.out 1; have hfz56_2 := blk_frozen BK262.out 2; have hfz56_3 := blk_frozen BK262.out 3) | ((with_reducible refine gate_builtin (b := .append) (xs := #[.tmp 62, .tmp 64]) rfl ?_); at_builtin; refine Kd.R_append k26 (w0 := w) w.heap.size rfl (.tmp 62) (.tmp 64) 29 26 (.agg #[(.int .u32 0), (.string ⟨#[]⟩), (.int .u8 0), (.int .u32 0)]) 32 rfl Tryz.underlying29 info26 rfl (by decide) (by omega) (.slice (some ad263) x3_1.length co50) x3_1 (⟨((x4_1 + (1 + (Int.tmod ((rd_T46 l0 x11_1).f0) 4))) % 4294967296), t261, (Int.tmod ((rd_T46 l0 x11_1).f1) 5), 0⟩ : S26) [.int .u32 ((x4_1 + (1 + (Int.tmod ((rd_T46 l0 x11_1).f0) 4))) % 4294967296), .string t261, .int .u8 (Int.tmod ((rd_T46 l0 x11_1).f1) 5), .int .u32 0] (fun k_ => k_ ≠ gb262 ∧ k_ ≠ gb264) (fun _ => False) rfl rfl ?aP (fun _ hk => hk.elim) ?aF ?aO ?aB ?aS ?aL ?_; (case aP => exact k26_mkM _ _ _ (⟨((x4_1 + (1 + (Int.tmod ((rd_T46 l0 x11_1).f0) 4))) % 4294967296), t261, (Int.tmod ((rd_T46 l0 x11_1).f1) 5), 0⟩ : S26)); (case aB => exact (by repeat (first | (with_reducible first | exact HB.out | apply below_alloc | apply pw_below_drewN | apply below_drew1 | refine below_set ?_ GE260.out | refine below_set ?_ GE262.out | refine below_set ?_ GE264.out) | exact HB.out))); (case aF => exact (fun k_ hk => ⟨Kd.freshB (g := gb262) (o := .cells #[.int .u32 ((x4_1 + (1 + (Int.tmod ((rd_T46 l0 x11_1).f0) 4))) % 4294967296), .string t261, .int .u8 (Int.tmod ((rd_T46 l0 x11_1).f1) 5), .int .u32 0] 26 (0, 0)) (by (with_reducible repeat (first | refine blk_drewN ?_ _ | refine blk_drew ?_ | refine blk_alloc ?_ _)); exact BK262.out) k_ hk, Kd.freshB (g := gb264) (o := .cells #[.int .u32 ((rd_T26 x3_1 (ji28)).f0), .string ((rd_T26 x3_1 (ji28)).f1), .int .u8 ((rd_T26 x3_1 (ji28)).f2), .int .u32 ((rd_T26 x3_1 (ji28)).f3)] 26 (0, 0)) (by (with_reducible repeat (first | refine blk_drewN ?_ _ | refine blk_drew ?_ | refine blk_alloc ?_ _)); exact BK264.out) k_ hk⟩)); (case aO => exact (by (with_reducible repeat (first | apply Kd.R_alloc | apply Kd.R_drewN | apply Kd.R_drew)); exact HO_3.out)); (case aS => exact (below_size (by repeat (first | (with_reducible first | exact HB.out | apply below_alloc | apply pw_below_drewN | apply below_drew1 | refine below_set ?_ GE260.out | refine below_set ?_ GE262.out | refine below_set ?_ GE264.out) | exact HB.out)))); (case aL => have := LMc47.out; omega); intro v270 w57 ho hb hg hat; rw [← Ny269.out] at ho; have n0_ := Aside0.mk (blk_grown (g := gb260) (o := .cells #[.int .u8 ((rd_T46 l0 x11_1).f0), .int .u8 ((rd_T46 l0 x11_1).f1), .int .u8 ((rd_T46 l0 x11_1).f2), .int .u8 ((rd_T46 l0 x11_1).f3)] 46 (0, 0)) (by (with_reducible repeat (first | refine blk_drewN ?_ _ | refine blk_drew ?_ | refine blk_alloc ?_ _)); exact BK260.out) hg (Kd.R_ne HO_3.out BK260.out (by decide))); have n1_ := Aside0.mk (blk_grown (g := gb262) (o := .cells #[.int .u32 ((x4_1 + (1 + (Int.tmod ((rd_T46 l0 x11_1).f0) 4))) % 4294967296), .string t261, .int .u8 (Int.tmod ((rd_T46 l0 x11_1).f1) 5), .int .u32 0] 26 (0, 0)) (by (with_reducible repeat (first | refine blk_drewN ?_ _ | refine blk_drew ?_ | refine blk_alloc ?_ _)); exact BK262.out) hg (Kd.R_away HO_3.out (fun _ hk => hk.1))); have n2_ := Aside0.mk (blk_grown (g := gb264) (o := .cells #[.int .u32 ((rd_T26 x3_1 (ji28)).f0), .string ((rd_T26 x3_1 (ji28)).f1), .int .u8 ((rd_T26 x3_1 (ji28)).f2), .int .u32 ((rd_T26 x3_1 (ji28)).f3)] 26 (0, 0)) (by (with_reducible repeat (first | refine blk_drewN ?_ _ | refine blk_drew ?_ | refine blk_alloc ?_ _)); exact BK264.out) hg (Kd.R_away HO_3.out (fun _ hk => hk.2))); have n3_ := Aside0.mk (hb); have n4_ := Aside0.mk (ho); clear BK260; clear BK262; clear BK264; clear HB; clear HO_3; have BK260 := n0_; have BK262 := n1_; have BK264 := n2_; have HB := n3_; have HO271 := n4_; clear n0_ n1_ n2_ n3_ n4_; clear ho hb hg hat))
               go_roundg kj8
               case measure => have := HK1.out; have := HJ8.out; omega
               case rel => exact ⟨(y269), (((x4_1 + (1 + (Int.tmod ((rd_T46 l0 x11_1).f0) 4))) % 4294967296)), (wrap64 (x11_1 + 1)), (by first | rfl | (simp; done) | (simp [*]; done)), (by first | rfl | (simp; done) | (simp [*]; done)), H', ⟨by have := HK1.out; have := HJ8.out; omega⟩, ⟨by (with_reducible repeat (first | apply Kd.R_alloc | apply Kd.R_drewN | apply Kd.R_drew)); exact Kd.R_mono HO271.out (fun _ hk => trivial)⟩, ⟨by repeat (first | (with_reducible first | exact HB.out | apply below_alloc | apply pw_below_drewN | apply below_drew1 | refine below_set ?_ GE260.out | refine below_set ?_ GE262.out | refine below_set ?_ GE264.out) | exact HB.out)⟩⟩
              ·rw [if_neg c47] at H
               exact absurd H (by simp)
            ·rw [if_neg c30] at H
             exact absurd H (by simp)
           ·rw [if_neg c29] at H
            exact absurd H (by simp)
         ·replace c26 := Bool.eq_false_iff.mpr c26
          subst c26
          have H1 : (if x3_1.length < 4398046511104 then (transposallaw06_Make.l0 kj8 (x3_1 ++ [(⟨((x4_1 + (1 + (Int.tmod ((rd_T46 l0 x11_1).f0) 4))) % 4294967296), t261, (Int.tmod ((rd_T46 l0 x11_1).f1) 5), 0⟩ : S26)]) ((x4_1 + (1 + (Int.tmod ((rd_T46 l0 x11_1).f0) 4))) % 4294967296) l0 (l0.length : Int) (wrap64 (x11_1 + 1))) else (none)) = some r := by rw [if_neg (show ¬ (false = true) by decide)] at H; exact H
          clear H
          have H := H1
          clear H1
          by_cases c58 : x3_1.length < 4398046511104
          ·rw [if_pos c58] at H
           have LMc58 := Aside0.mk c58
           clear c58
           obtain ⟨y272, hy272⟩ : ∃ y_ : List (S26), y_ = (x3_1 ++ [(⟨((x4_1 + (1 + (Int.tmod ((rd_T46 l0 x11_1).f0) 4))) % 4294967296), t261, (Int.tmod ((rd_T46 l0 x11_1).f1) 5), 0⟩ : S26)]) := ⟨_, rfl⟩
           replace H : (transposallaw06_Make.l0 kj8 y272 ((x4_1 + (1 + (Int.tmod ((rd_T46 l0 x11_1).f0) 4))) % 4294967296) l0 (l0.length : Int) (wrap64 (x11_1 + 1))) = some r := by first | (rw [hy272]; with_reducible exact H) | (have H2_ := (Option.bind_some _ _).symm.trans H; rw [hy272]; with_reducible exact H2_) | (have H2_ := (Option.bind_some _ _).symm.trans H; with_reducible exact H2_) | with_reducible exact H | (rw [hy272]; exact H) | exact H
           have Ny272 := Aside0.mk hy272
           clear hy272
           have H' := Aside0.mk H
           clear H
           have hnb59 := NB262_260.out
           have hnc59 := NB260_262.out
           have hcz60_0 : wc.cell? ⟨gb262, 0, none⟩ = some (.int .u32 ((x4_1 + (1 + (Int.tmod ((rd_T46 l0 x11_1).f0) 4))) % 4294967296)) := (blk_cell BK262.out 0).trans rfl
           have hcz60_1 : wc.cell? ⟨gb262, 1, none⟩ = some (.string t261) := (blk_cell BK262.out 1).trans rfl
           have hcz60_2 : wc.cell? ⟨gb262, 2, none⟩ = some (.int .u8 (Int.tmod ((rd_T46 l0 x11_1).f1) 5)) := (blk_cell BK262.out 2).trans rfl
           have hcz60_3 : wc.cell? ⟨gb262, 3, none⟩ = some (.int .u32 0) := (blk_cell BK262.out 3).trans rfl
           have hfz60_0 := blk_frozen BK262.out 0
           have hfz60_1 := blk_frozen BK262.out 1
           have hfz60_2 := blk_frozen BK262.out 2
           have hfz60_3 := blk_frozen BK262.out 3
           go_wp2_with (first | ((with_reducible refine gate_builtin (b := .append) (xs := #[.tmp 62, .tmp 64]) rfl ?_); at_builtin; refine Kd.R_append k26 (w0 := w) w.heap.size rfl (.tmp 62) (.tmp 64) 29 26 (.agg #[(.int .u32 0), (.string ⟨#[]⟩), (.int .u8 0), (.int .u32 0)]) 32 rfl Tryz.underlying29 info26 rfl (by decide) (by omega) u3 x3_1 (⟨((x4_1 + (1 + (Int.tmod ((rd_T46 l0 x11_1).f0) 4))) % 4294967296), t261, (Int.tmod ((rd_T46 l0 x11_1).f1) 5), 0⟩ : S26) [.int .u32 ((x4_1 + (1 + (Int.tmod ((rd_T46 l0 x11_1).f0) 4))) % 4294967296), .string t261, .int .u8 (Int.tmod ((rd_T46 l0 x11_1).f1) 5), .int .u32 0] (fun k_ => k_ ≠ gb262) (fun _ => False) rfl rfl ?aP (fun _ hk => hk.elim) ?aF ?aO ?aB ?aS ?aL ?_; (case aP => exact k26_mkM _ _ _ (⟨((x4_1 + (1 + (Int.tmod ((rd_T46 l0 x11_1).f0) 4))) % 4294967296), t261, (Int.tmod ((rd_T46 l0 x11_1).f1) 5), 0⟩ : S26)); (case aB => exact (by repeat (first | (with_reducible first | exact HB.out | apply below_alloc | apply pw_below_drewN | apply below_drew1 | refine below_set ?_ GE260.out | refine below_set ?_ GE262.out) | exact HB.out))); (case aF => exact (fun k_ hk => Kd.freshB (g := gb262) (o := .cells #[.int .u32 ((x4_1 + (1 + (Int.tmod ((rd_T46 l0 x11_1).f0) 4))) % 4294967296), .string t261, .int .u8 (Int.tmod ((rd_T46 l0 x11_1).f1) 5), .int .u32 0] 26 (0, 0)) (by (with_reducible repeat (first | refine blk_drewN ?_ _ | refine blk_drew ?_ | refine blk_alloc ?_ _)); exact BK262.out) k_ hk)); (case aO => exact (by (with_reducible repeat (first | apply Kd.R_alloc | apply Kd.R_drewN | apply Kd.R_drew)); exact HO_3.out)); (case aS => exact (below_size (by repeat (first | (with_reducible first | exact HB.out | apply below_alloc | apply pw_below_drewN | apply below_drew1 | refine below_set ?_ GE260.out | refine below_set ?_ GE262.out) | exact HB.out)))); (case aL => have := LMc58.out; omega); intro v273 w61 ho hb hg hat; rw [← Ny272.out] at ho; have n0_ := Aside0.mk (blk_grown (g := gb260) (o := .cells #[.int .u8 ((rd_T46 l0 x11_1).f0), .int .u8 ((rd_T46 l0 x11_1).f1), .int .u8 ((rd_T46 l0 x11_1).f2), .int .u8 ((rd_T46 l0 x11_1).f3)] 46 (0, 0)) (by (with_reducible repeat (first | refine blk_drewN ?_ _ | refine blk_drew ?_ | refine blk_alloc ?_ _)); exact BK260.out) hg (Kd.R_ne HO_3.out BK260.out (by decide))); have n1_ := Aside0.mk (blk_grown (g := gb262) (o := .cells #[.int .u32 ((x4_1 + (1 + (Int.tmod ((rd_T46 l0 x11_1).f0) 4))) % 4294967296), .string t261, .int .u8 (Int.tmod ((rd_T46 l0 x11_1).f1) 5), .int .u32 0] 26 (0, 0)) (by (with_reducible repeat (first | refine blk_drewN ?_ _ | refine blk_drew ?_ | refine blk_alloc ?_ _)); exact BK262.out) hg (Kd.R_away HO_3.out (fun _ hk => hk))); have n2_ := Aside0.mk (hb); have n3_ := Aside0.mk (ho); clear BK260; clear BK262; clear HB; clear HO_3; have BK260 := n0_; have BK262 := n1_; have HB := n2_; have HO274 := n3_; clear n0_ n1_ n2_ n3_; clear ho hb hg hat))
           go_roundg kj8
           case measure => have := HK1.out; have := HJ8.out; omega
           case rel => exact ⟨(y272), (((x4_1 + (1 + (Int.tmod ((rd_T46 l0 x11_1).f0) 4))) % 4294967296)), (wrap64 (x11_1 + 1)), (by first | rfl | (simp; done) | (simp [*]; done)), (by first | rfl | (simp; done) | (simp [*]; done)), H', ⟨by have := HK1.out; have := HJ8.out; omega⟩, ⟨by (with_reducible repeat (first | apply Kd.R_alloc | apply Kd.R_drewN | apply Kd.R_drew)); exact Kd.R_mono HO274.out (fun _ hk => trivial)⟩, ⟨by repeat (first | (with_reducible first | exact HB.out | apply below_alloc | apply pw_below_drewN | apply below_drew1 | refine below_set ?_ GE260.out | refine below_set ?_ GE262.out) | exact HB.out)⟩⟩
          ·rw [if_neg c58] at H
           exact absurd H (by simp)
     ·rw [if_neg c4] at H
      exact absurd H (by simp)
    ·rw [if_neg c3] at H
     exact absurd H (by simp)
   ·rw [if_neg c2] at H
    have c2b0 : decide (x11_1 < (l0.length : Int)) = false := decide_eq_false c2
    clear c2
    obtain rfl := Option.some.inj H
    go_wp2
    go_ret
    exact ⟨_, by first | rfl | (simp [errW_none, errW_some] <;> rfl) | (simp [*, errW_none, errW_some] <;> rfl), by (with_reducible repeat (first | apply Kd.R_alloc | apply Kd.R_drewN | apply Kd.R_drew)); exact HO_3.out, by repeat (first | (with_reducible first | exact HB.out | apply below_alloc | apply pw_below_drewN | apply below_drew1) | exact HB.out)⟩

end Go.Proofs.YtckggmblafafjaaGreatDoor.XA
