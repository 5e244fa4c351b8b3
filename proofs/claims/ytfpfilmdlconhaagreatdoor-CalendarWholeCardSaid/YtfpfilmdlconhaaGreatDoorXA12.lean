-- Written by a program of this session's (wip/xp) out of the translation; given functions by hand.
import Derived.Test.YtfpfilmdlconhaaGreatDoorXA0
import Derived.Test.YtfpfilmdlconhaaGreatDoorXA2
import Derived.Test.YtfpfilmdlconhaaGreatDoorXA9
import Derived.Test.YtfpfilmdlconhaaGreatDoorXA11
namespace Go.Proofs.YtfpfilmdlconhaaGreatDoor.XA
open Go.RowKit Go.Proofs.YtfpfilmdlconhaaGreatDoorW.PrintWords Go.Proofs.YtfpfilmdlconhaaGreatDoorW.PrintLast Go.Proofs.YtfpfilmdlconhaaGreatDoorW.PrintMore
attribute [local go_sem] max2_int min2_int max_two min_two max_three min_three max_four min_four   -- for this text's walks alone
set_option linter.unusedVariables false
set_option linter.unusedSimpArgs false

/-! ### transposallaw08_CalendarWhole: function 4 -/
def transposallaw08_CalendarWhole.l0 : Nat → Int → Int → List Int → Int → Option (Bool)
 | 0, _, _, _, _ => none
 | k + 1, x6, x7, x334000, x334001 => if x7 < x334001 then ((calendar_Calendar_Period.f k x334000 x334001 x7).bind fun bt335 => (if bt335.2 = true then (if bt335.1 < x6 then (some false) else (if bt335.1 > (wrap64 (x6 + 1)) then (some false) else (if 0 < (x334000.length : Int) then (if x7 = (rd x334000 0) then (if bt335.1 = 0 then (transposallaw08_CalendarWhole.l0 k bt335.1 (wrap32 (x7 + 1)) x334000 x334001) else (some false)) else (transposallaw08_CalendarWhole.l0 k bt335.1 (wrap32 (x7 + 1)) x334000 x334001)) else (none)))) else (some false))) else ((calendar_Calendar_Len.f x334000 x334001).bind fun t338 => (some (x6 == (wrap64 (t338 - 1)))))
def transposallaw08_CalendarWhole.f (k : Nat) (a0 : Int) (l1 : List Int) : Option (Bool) := (transposallaw08_Awake.f k).bind fun t328 => (if t328 = true then ((transposallaw08_Make.f k a0 l1).bind fun bt329 => (if 0 < (bt329.1.length : Int) then (transposallaw08_CalendarWhole.l0 k 0 (rd bt329.1 0) bt329.1 bt329.2) else (none))) else (some false))
theorem transposallaw08_CalendarWhole.mono_l : ∀ k, (∀ y0 y1 y2 y3, LeO (transposallaw08_CalendarWhole.l0 k y0 y1 y2 y3) (transposallaw08_CalendarWhole.l0 (k + 1) y0 y1 y2 y3))
 | 0 => fun _ _ _ _ r h => by simp [transposallaw08_CalendarWhole.l0] at h
 | k + 1 => by
  have ih0 := transposallaw08_CalendarWhole.mono_l k
  ·intro y0 y1 y2 y3
   unfold transposallaw08_CalendarWhole.l0
   repeat' first
   | (with_reducible exact ih0 _ _ _ _)
   | (with_reducible exact calendar_Calendar_Period.mono _ _ _ _)
   | (with_reducible exact transposallaw08_Awake.mono _)
   | (with_reducible exact transposallaw08_Make.mono _ _ _)
   | (with_reducible exact LeO.refl _)
   | (with_reducible exact LeO.none _)
   | (with_reducible refine LeO.ite ?_ ?_)
   | (with_reducible refine LeO.bind ?_ (fun _ => ?_))
   | exact ih0 _ _ _ _
   | exact calendar_Calendar_Period.mono _ _ _ _
   | exact transposallaw08_Awake.mono _
   | exact transposallaw08_Make.mono _ _ _
   | exact LeO.none _
   | refine LeO.ite ?_ ?_
   | refine LeO.bind ?_ (fun _ => ?_)
theorem transposallaw08_CalendarWhole.mono : ∀ a0 a1 k, LeO (transposallaw08_CalendarWhole.f k a0 a1) (transposallaw08_CalendarWhole.f (k + 1) a0 a1) := by
 intro a0 a1 k
 have ih0 := transposallaw08_CalendarWhole.mono_l k
 unfold transposallaw08_CalendarWhole.f
 repeat' first
   | (with_reducible exact ih0 _ _ _ _)
   | (with_reducible exact calendar_Calendar_Period.mono _ _ _ _)
   | (with_reducible exact transposallaw08_Awake.mono _)
   | (with_reducible exact transposallaw08_Make.mono _ _ _)
   | (with_reducible exact LeO.refl _)
   | (with_reducible exact LeO.none _)
   | (with_reducible refine LeO.ite ?_ ?_)
   | (with_reducible refine LeO.bind ?_ (fun _ => ?_))
   | exact ih0 _ _ _ _
   | exact calendar_Calendar_Period.mono _ _ _ _
   | exact transposallaw08_Awake.mono _
   | exact transposallaw08_Make.mono _ _ _
   | exact LeO.none _
   | refine LeO.ite ?_ ?_
   | refine LeO.bind ?_ (fun _ => ?_)
set_option maxHeartbeats 8000000 in
set_option maxRecDepth 100000 in
theorem transposallaw08_CalendarWhole.calls (k : Nat) (a0 : Int) (A1 : Option Addr) (c1 : Nat) (l1 : List Int) (r : Bool) (w : World) (hr1 : Kd.C (Kd.int .u8) w A1 l1.length l1) (hc1 : l1.length ≤ c1) (hG : Glob w) (h : transposallaw08_CalendarWhole.f k a0 l1 = some r) :
  Calls Tryz.prog 4 #[.int .i16 a0, .slice A1 l1.length c1] w fun e w' => e = .returned (.bool r) ∧ Below w.heap.size w w' := by
 have hu28 := Tryz.underlying28
 have HG := Aside0.mk hG
 clear hG
 have HR1 := Aside0.mk hr1
 have HC1 := Aside0.mk hc1
 clear hr1 hc1
 have HB := Aside0.mk (Below.refl w.heap.size w)
 have H : ((transposallaw08_Awake.f k).bind fun t328 => (if t328 = true then ((transposallaw08_Make.f k a0 l1).bind fun bt329 => (if 0 < (bt329.1.length : Int) then (transposallaw08_CalendarWhole.l0 k 0 (rd bt329.1 0) bt329.1 bt329.2) else (none))) else (some false))) = some r := h
 clear h
 replace H := Option.bind_eq_some_iff.mp H
 obtain ⟨t328, A30, H⟩ := H
 replace H : (if t328 = true then ((transposallaw08_Make.f k a0 l1).bind fun bt329 => (if 0 < (bt329.1.length : Int) then (transposallaw08_CalendarWhole.l0 k 0 (rd bt329.1 0) bt329.1 bt329.2) else (none))) else (some false)) = some r := H
 have A3 := Aside0.mk A30
 clear A30
 by_cases c4 : t328 = true
 ·subst c4
  have H1 : ((transposallaw08_Make.f k a0 l1).bind fun bt329 => (if 0 < (bt329.1.length : Int) then (transposallaw08_CalendarWhole.l0 k 0 (rd bt329.1 0) bt329.1 bt329.2) else (none))) = some r := by rw [if_pos rfl] at H; exact H
  clear H
  have H := H1
  clear H1
  replace H := Option.bind_eq_some_iff.mp H
  obtain ⟨⟨t329, t332⟩, A50, H⟩ := H
  replace H : (if 0 < (t329.length : Int) then (transposallaw08_CalendarWhole.l0 k 0 (rd t329 0) t329 t332) else (none)) = some r := H
  have A5 := Aside0.mk A50
  clear A50
  by_cases c6 : 0 < (t329.length : Int)
  ·rw [if_pos c6] at H
   have c6b0 : decide (0 < (t329.length : Int)) = true := decide_eq_true c6
   have c6b1 : decide (0 < t329.length) = true := decide_eq_true (by omega)
   clear c6
   have H' := Aside0.mk H
   clear H
   go_enter Tryz.func4, Tryz.ntmps4
   go_wp2_with (first | ((with_reducible refine gate_callee (f := 12) rfl ?_); refine goesL_ (some 10) rfl rfl Tryz.func12 (by kernel_rfl) rfl #[] rfl (by (try simp only [List.map_toArray, List.map_cons, List.map_nil]); first | done | rfl | (simp only [List.length_drop, List.length_take]; rfl)) ?_; (with_reducible refine (transposallaw08_Awake.calls k  true _ ?side1 A3.out).mono ?_); (case side1 => exact Glob.below (by repeat (first | (with_reducible first | exact HB.out | apply below_alloc | apply pw_below_drewN | apply below_drew1) | exact HB.out)) HG.out); rintro e w7 ⟨rfl, hb⟩; refine ⟨_, rfl, ?_⟩; have n0_ := Aside0.mk (below_step (by repeat (first | (with_reducible first | exact HB.out | apply below_alloc | apply pw_below_drewN | apply below_drew1) | exact HB.out)) hb); clear HB; have HB := n0_; clear n0_; (try clear hb); (try clear hb2); (try clear hk); (try clear hi)) | ((with_reducible refine gate_callee (f := 13) rfl ?_); refine goesL_ (some 14) rfl rfl Tryz.func13 (by kernel_rfl) rfl #[.int .i16 a0, .slice A1 l1.length c1] rfl (by (try simp only [List.map_toArray, List.map_cons, List.map_nil]); first | done | rfl | (simp only [List.length_drop, List.length_take]; rfl)) ?_; (with_reducible refine (transposallaw08_Make.calls k a0 _ _ l1 t329 t332 _ ?side1 ?side2 A5.out).mono ?_); (case side1 => repeat (first | exact (Kd.C_below HR1.out HB.out) | (with_reducible refine Kd.C_alloc ?_ _) | (with_reducible refine Kd.C_drewN ?_ _) | (with_reducible refine Kd.C_drew ?_))); (case side2 => exact HC1.out); rintro e w8 ⟨v330, rfl, ho0, hb⟩; refine ⟨_, rfl, ?_⟩; have n0_ := Aside0.mk (Kd.R_lower ho0 (below_size (by repeat (first | (with_reducible first | exact HB.out | apply below_alloc | apply pw_below_drewN | apply below_drew1) | exact HB.out)))); have n1_ := Aside0.mk (below_step (by repeat (first | (with_reducible first | exact HB.out | apply below_alloc | apply pw_below_drewN | apply below_drew1) | exact HB.out)) hb); clear HB; have HO331 := n0_; have HB := n1_; clear n0_ n1_; (try clear hb); (try clear hb2); (try clear hk); (try clear hi); (try clear ho0)) | ((with_reducible refine gate_dst (N := 5) rfl ?_); refine box_event ?hg (N := 5) ?hd (cs := #[.slice none 0 0, .int .i32 0]) (t := 28) ?hr ?_; (case hd => rfl); (case hg => rfl); (case hr => first | (go_simp; done) | (go_simp; rfl)); intro gb333 hg w9 hbox hb; have n0_ := Aside0.mk (Kd.R_below (by (with_reducible repeat (first | apply Kd.R_alloc | apply Kd.R_drewN | apply Kd.R_drew)); exact HO331.out) hb); have n1_ := Aside0.mk (below_step (by repeat (first | (with_reducible first | exact HB.out | apply below_alloc | apply pw_below_drewN | apply below_drew1) | exact HB.out)) hb); have n2_ := Aside0.mk (hbox); have n3_ := Aside0.mk ((by rw [hg]; exact (below_size (by repeat (first | (with_reducible first | exact HB.out | apply below_alloc | apply pw_below_drewN | apply below_drew1) | exact HB.out))) : w.heap.size ≤ gb333)); have n4_ := Aside0.mk ((by rw [hg]; exact (below_size (by repeat (first | (with_reducible first | exact HB.out | apply below_alloc | apply pw_below_drewN | apply below_drew1) | exact HB.out))) : w.heap.size ≤ gb333)); clear HO331; clear HB; have HO331 := n0_; have HB := n1_; have BK333 := n2_; have GW333 := n3_; have GE333 := n4_; clear n0_ n1_ n2_ n3_ n4_; clear hb hbox hg; obtain ⟨Ao10, co10, eo10⟩ := Kd.R_slice HO331.out; subst eo10; have hcz11_0 : w9.cell? ⟨gb333, 0, none⟩ = some (.slice none 0 0) := (blk_cell BK333.out 0).trans rfl; have hcz11_1 : w9.cell? ⟨gb333, 1, none⟩ = some (.int .i32 0) := (blk_cell BK333.out 1).trans rfl; have hfz11_0 := blk_frozen BK333.out 0; have hfz11_1 := blk_frozen BK333.out 1; have p334 : 0 ≤ (0 : Int) := (by omega); have q334 : 0 < (t329.length : Int) := of_decide_eq_true (by first | (with_reducible assumption) | assumption); obtain ⟨ad334, e334, hx334_0⟩ := Kd.at_int (Kd.R_reads' HO331.out).2.2 0 p334 q334; cases e334; have qi334 : (0 < t329.length) = True := eq_true (by omega); (try rw [show ((0 : Int)).toNat = 0 from rfl] at hx334_0); (try rw [Addr.add_zero'] at hx334_0); have hn334_0 : ad334.block ≠ gb333 := Kd.own_blk (Kd.R_ne HO331.out BK333.out (by decide)); have hn334_1 : ad334.block ≠ gb333 := Kd.own_blk (Kd.R_ne HO331.out BK333.out (by decide)); replace hx334_0 := (cell_far (p := ⟨gb333, 0, none⟩) (by first | (rw [add_block]; exact hn334_0) | (show (Addr.add _ _).block ≠ _; rw [add_block]; exact hn334_0) | exact hn334_0) (.slice (some ad334) t329.length co10)).trans hx334_0; replace hx334_0 := (cell_far (p := ⟨gb333, 1, none⟩) (by first | (rw [add_block]; exact hn334_1) | (show (Addr.add _ _).block ≠ _; rw [add_block]; exact hn334_1) | exact hn334_1) (.int .i32 t332)).trans hx334_0; clear hn334_0; clear hn334_1; replace p334 := eq_true p334; replace q334 := eq_true q334))
   go_loopg [6, 7] k (fun kq v6 v7 w' => ∃ (x6_1 : Int) (x7_1 : Int), v6 = .int .i64 x6_1 ∧ v7 = .int .i32 x7_1 ∧ Aside0 (transposallaw08_CalendarWhole.l0 kq x6_1 x7_1 t329 t332 = some r) ∧ Aside0 (kq ≤ k) ∧ Aside0 (Kd.R (Kd.int .i32) 26 w' w.heap.size (fun _ => True) (.slice (some ad334) t329.length co10) t329) ∧ Aside0 (w'.heap[gb333]? = some (.cells #[(.slice (some ad334) t329.length co10), .int .i32 t332] 28 (0, 0))) ∧ Aside0 (Below w.heap.size w w'))
   case atStart => exact ⟨(0), (rd t329 0), (by first | rfl | (simp; done) | (simp [*]; done)), (by first | rfl | (simp; done) | (simp [*]; done)), H', ⟨Nat.le_refl _⟩, ⟨by (with_reducible repeat (first | apply Kd.R_alloc | apply Kd.R_drewN | apply Kd.R_drew)); exact Kd.R_mono (Kd.R_far (p := ⟨gb333, 1, none⟩) (Kd.R_far (p := ⟨gb333, 0, none⟩) (Kd.R_types HO331.out BK333.out (by decide)) (fun _ hk => hk.2) (.slice (some ad334) t329.length co10)) (fun _ hk => hk.2) (.int .i32 t332)) (fun _ hk => trivial)⟩, ⟨by (with_reducible repeat (first | refine blk_drewN ?_ _ | refine blk_drew ?_ | refine blk_alloc ?_ _)); refine blk_put (cs := #[.slice (some ad334) t329.length co10, .int .i32 0]) ?_ 1 _ rfl; (with_reducible repeat (first | refine blk_drewN ?_ _ | refine blk_drew ?_ | refine blk_alloc ?_ _)); refine blk_put (cs := #[.slice none 0 0, .int .i32 0]) ?_ 0 _ rfl; (with_reducible repeat (first | refine blk_drewN ?_ _ | refine blk_drew ?_ | refine blk_alloc ?_ _)); exact BK333.out⟩, ⟨by repeat (first | (with_reducible first | exact HB.out | apply below_alloc | apply pw_below_drewN | apply below_drew1 | refine below_set ?_ GE333.out) | exact HB.out)⟩⟩
   case round =>
    clear H'
    try clear c1
    try clear p2
    try clear p3
    try clear q3
    try clear hx3
    try clear qi3
    try clear c4
    try clear c6
    try clear c6b0
    try clear c6b1
    try clear hcz11_0
    try clear hcz11_1
    try clear hfz11_0
    try clear hfz11_1
    try clear hx334_0
    try clear p334
    try clear q334
    obtain ⟨x6_1, x7_1, rfl, rfl, HA, HK1, HO_334000, BK333, HB⟩ := hrel
    cases gk with
    | zero => exact absurd HA.out (by simp [transposallaw08_CalendarWhole.l0])
    | succ k1 =>
     have H := HA.out
     clear HA
     simp only [transposallaw08_CalendarWhole.l0] at H
     by_cases c12 : x7_1 < t332
     ·rw [if_pos c12] at H
      have c12b0 : decide (x7_1 < t332) = true := decide_eq_true c12
      clear c12
      replace H := Option.bind_eq_some_iff.mp H
      obtain ⟨⟨t335, t336⟩, A130, H⟩ := H
      replace H : (if t336 = true then (if t335 < x6_1 then (some false) else (if t335 > (wrap64 (x6_1 + 1)) then (some false) else (if 0 < (t329.length : Int) then (if x7_1 = (rd t329 0) then (if t335 = 0 then (transposallaw08_CalendarWhole.l0 k1 t335 (wrap32 (x7_1 + 1)) t329 t332) else (some false)) else (transposallaw08_CalendarWhole.l0 k1 t335 (wrap32 (x7_1 + 1)) t329 t332)) else (none)))) else (some false)) = some r := H
      have A13 := Aside0.mk A130
      clear A130
      by_cases c14 : t336 = true
      ·subst c14
       have H1 : (if t335 < x6_1 then (some false) else (if t335 > (wrap64 (x6_1 + 1)) then (some false) else (if 0 < (t329.length : Int) then (if x7_1 = (rd t329 0) then (if t335 = 0 then (transposallaw08_CalendarWhole.l0 k1 t335 (wrap32 (x7_1 + 1)) t329 t332) else (some false)) else (transposallaw08_CalendarWhole.l0 k1 t335 (wrap32 (x7_1 + 1)) t329 t332)) else (none)))) = some r := by rw [if_pos rfl] at H; exact H
       clear H
       have H := H1
       clear H1
       by_cases c15 : t335 < x6_1
       ·rw [if_pos c15] at H
        have c15b0 : decide (t335 < x6_1) = true := decide_eq_true c15
        clear c15
        obtain rfl := Option.some.inj H
        have hcz16_0 : wr.cell? ⟨gb333, 0, none⟩ = some (.slice (some ad334) t329.length co10) := (blk_cell BK333.out 0).trans rfl
        have hcz16_1 : wr.cell? ⟨gb333, 1, none⟩ = some (.int .i32 t332) := (blk_cell BK333.out 1).trans rfl
        have hfz16_0 := blk_frozen BK333.out 0
        have hfz16_1 := blk_frozen BK333.out 1
        go_wp2_with (first | ((with_reducible refine gate_callee (f := 15) rfl ?_); refine goesL_ (some 28) rfl rfl Tryz.func15 (by kernel_rfl) rfl #[.agg #[.slice (some ad334) t329.length co10, .int .i32 t332], .int .i32 x7_1] rfl (by (try simp only [List.map_toArray, List.map_cons, List.map_nil]); first | done | rfl | (simp only [List.length_drop, List.length_take]; rfl)) ?_; (with_reducible refine (calendar_Calendar_Period.calls k1 _ _ t329 t332 x7_1 t335 true _ ?side1 ?side2 A13.out).mono ?_); (case side1 => repeat (first | exact (Kd.R_reads' HO_334000.out).2.2 | (with_reducible refine Kd.C_alloc ?_ _) | (with_reducible refine Kd.C_drewN ?_ _) | (with_reducible refine Kd.C_drew ?_))); (case side2 => exact (Kd.R_reads' HO_334000.out).2.1); rintro e w17 ⟨rfl, hb⟩; refine ⟨_, rfl, ?_⟩; have n0_ := Aside0.mk (Kd.R_below (by (with_reducible repeat (first | apply Kd.R_alloc | apply Kd.R_drewN | apply Kd.R_drew)); exact HO_334000.out) hb); have n1_ := Aside0.mk (blk_below (g := gb333) (o := .cells #[.slice (some ad334) t329.length co10, .int .i32 t332] 28 (0, 0)) (by (with_reducible repeat (first | refine blk_drewN ?_ _ | refine blk_drew ?_ | refine blk_alloc ?_ _)); exact BK333.out) hb); have n2_ := Aside0.mk (below_step (by repeat (first | (with_reducible first | exact HB.out | apply below_alloc | apply pw_below_drewN | apply below_drew1 | refine below_set ?_ GE333.out) | exact HB.out)) hb); clear HO_334000; clear BK333; clear HB; have HO_334000 := n0_; have BK333 := n1_; have HB := n2_; clear n0_ n1_ n2_; (try clear hb); (try clear hb2); (try clear hk); (try clear hi)))
        go_ret
        exact ⟨by first | rfl | (simp [errW_none, errW_some] <;> rfl) | (simp [*, errW_none, errW_some] <;> rfl), by repeat (first | (with_reducible first | exact HB.out | apply below_alloc | apply pw_below_drewN | apply below_drew1 | refine below_set ?_ GE333.out) | exact HB.out)⟩
       ·rw [if_neg c15] at H
        have c15b0 : decide (t335 < x6_1) = false := decide_eq_false c15
        clear c15
        by_cases c18 : t335 > (wrap64 (x6_1 + 1))
        ·rw [if_pos c18] at H
         have c18b0 : decide ((wrap64 (x6_1 + 1)) < t335) = true := decide_eq_true c18
         clear c18
         obtain rfl := Option.some.inj H
         have hcz19_0 : wr.cell? ⟨gb333, 0, none⟩ = some (.slice (some ad334) t329.length co10) := (blk_cell BK333.out 0).trans rfl
         have hcz19_1 : wr.cell? ⟨gb333, 1, none⟩ = some (.int .i32 t332) := (blk_cell BK333.out 1).trans rfl
         have hfz19_0 := blk_frozen BK333.out 0
         have hfz19_1 := blk_frozen BK333.out 1
         go_wp2_with (first | ((with_reducible refine gate_callee (f := 15) rfl ?_); refine goesL_ (some 28) rfl rfl Tryz.func15 (by kernel_rfl) rfl #[.agg #[.slice (some ad334) t329.length co10, .int .i32 t332], .int .i32 x7_1] rfl (by (try simp only [List.map_toArray, List.map_cons, List.map_nil]); first | done | rfl | (simp only [List.length_drop, List.length_take]; rfl)) ?_; (with_reducible refine (calendar_Calendar_Period.calls k1 _ _ t329 t332 x7_1 t335 true _ ?side1 ?side2 A13.out).mono ?_); (case side1 => repeat (first | exact (Kd.R_reads' HO_334000.out).2.2 | (with_reducible refine Kd.C_alloc ?_ _) | (with_reducible refine Kd.C_drewN ?_ _) | (with_reducible refine Kd.C_drew ?_))); (case side2 => exact (Kd.R_reads' HO_334000.out).2.1); rintro e w20 ⟨rfl, hb⟩; refine ⟨_, rfl, ?_⟩; have n0_ := Aside0.mk (Kd.R_below (by (with_reducible repeat (first | apply Kd.R_alloc | apply Kd.R_drewN | apply Kd.R_drew)); exact HO_334000.out) hb); have n1_ := Aside0.mk (blk_below (g := gb333) (o := .cells #[.slice (some ad334) t329.length co10, .int .i32 t332] 28 (0, 0)) (by (with_reducible repeat (first | refine blk_drewN ?_ _ | refine blk_drew ?_ | refine blk_alloc ?_ _)); exact BK333.out) hb); have n2_ := Aside0.mk (below_step (by repeat (first | (with_reducible first | exact HB.out | apply below_alloc | apply pw_below_drewN | apply below_drew1 | refine below_set ?_ GE333.out) | exact HB.out)) hb); clear HO_334000; clear BK333; clear HB; have HO_334000 := n0_; have BK333 := n1_; have HB := n2_; clear n0_ n1_ n2_; (try clear hb); (try clear hb2); (try clear hk); (try clear hi)))
         go_ret
         exact ⟨by first | rfl | (simp [errW_none, errW_some] <;> rfl) | (simp [*, errW_none, errW_some] <;> rfl), by repeat (first | (with_reducible first | exact HB.out | apply below_alloc | apply pw_below_drewN | apply below_drew1 | refine below_set ?_ GE333.out) | exact HB.out)⟩
        ·rw [if_neg c18] at H
         have c18b0 : decide ((wrap64 (x6_1 + 1)) < t335) = false := decide_eq_false c18
         clear c18
         by_cases c21 : 0 < (t329.length : Int)
         ·rw [if_pos c21] at H
          have c21b0 : decide (0 < (t329.length : Int)) = true := decide_eq_true c21
          have c21b1 : decide (0 < t329.length) = true := decide_eq_true (by omega)
          clear c21
          by_cases c22 : x7_1 = (rd t329 0)
          ·rw [if_pos c22] at H
           have c22b0 : (x7_1 == (rd t329 0)) = true := beq_iff_eq.mpr c22
           have c22b1 : (x7_1 != (rd t329 0)) = false := bne_eq_false_iff_eq.mpr c22
           clear c22
           by_cases c23 : t335 = 0
           ·rw [if_pos c23] at H
            have c23b0 : (t335 == 0) = true := beq_iff_eq.mpr c23
            have c23b1 : (t335 != 0) = false := bne_eq_false_iff_eq.mpr c23
            clear c23
            have H' := Aside0.mk H
            clear H
            have hcz24_0 : wr.cell? ⟨gb333, 0, none⟩ = some (.slice (some ad334) t329.length co10) := (blk_cell BK333.out 0).trans rfl
            have hcz24_1 : wr.cell? ⟨gb333, 1, none⟩ = some (.int .i32 t332) := (blk_cell BK333.out 1).trans rfl
            have hfz24_0 := blk_frozen BK333.out 0
            have hfz24_1 := blk_frozen BK333.out 1
            go_wp2_with (first | ((with_reducible refine gate_callee (f := 15) rfl ?_); refine goesL_ (some 28) rfl rfl Tryz.func15 (by kernel_rfl) rfl #[.agg #[.slice (some ad334) t329.length co10, .int .i32 t332], .int .i32 x7_1] rfl (by (try simp only [List.map_toArray, List.map_cons, List.map_nil]); first | done | rfl | (simp only [List.length_drop, List.length_take]; rfl)) ?_; (with_reducible refine (calendar_Calendar_Period.calls k1 _ _ t329 t332 x7_1 t335 true _ ?side1 ?side2 A13.out).mono ?_); (case side1 => repeat (first | exact (Kd.R_reads' HO_334000.out).2.2 | (with_reducible refine Kd.C_alloc ?_ _) | (with_reducible refine Kd.C_drewN ?_ _) | (with_reducible refine Kd.C_drew ?_))); (case side2 => exact (Kd.R_reads' HO_334000.out).2.1); rintro e w25 ⟨rfl, hb⟩; refine ⟨_, rfl, ?_⟩; have n0_ := Aside0.mk (Kd.R_below (by (with_reducible repeat (first | apply Kd.R_alloc | apply Kd.R_drewN | apply Kd.R_drew)); exact HO_334000.out) hb); have n1_ := Aside0.mk (blk_below (g := gb333) (o := .cells #[.slice (some ad334) t329.length co10, .int .i32 t332] 28 (0, 0)) (by (with_reducible repeat (first | refine blk_drewN ?_ _ | refine blk_drew ?_ | refine blk_alloc ?_ _)); exact BK333.out) hb); have n2_ := Aside0.mk (below_step (by repeat (first | (with_reducible first | exact HB.out | apply below_alloc | apply pw_below_drewN | apply below_drew1 | refine below_set ?_ GE333.out) | exact HB.out)) hb); clear HO_334000; clear BK333; clear HB; have HO_334000 := n0_; have BK333 := n1_; have HB := n2_; clear n0_ n1_ n2_; (try clear hb); (try clear hb2); (try clear hk); (try clear hi); have hcz26_0 : w25.cell? ⟨gb333, 0, none⟩ = some (.slice (some ad334) t329.length co10) := (blk_cell BK333.out 0).trans rfl; have hcz26_1 : w25.cell? ⟨gb333, 1, none⟩ = some (.int .i32 t332) := (blk_cell BK333.out 1).trans rfl; have hfz26_0 := blk_frozen BK333.out 0; have hfz26_1 := blk_frozen BK333.out 1; have p337 : 0 ≤ (0 : Int) := (by omega); have q337 : 0 < (t329.length : Int) := of_decide_eq_true (by first | (with_reducible assumption) | assumption); obtain ⟨ad337, e337, hx337_0⟩ := Kd.at_int (Kd.R_reads' HO_334000.out).2.2 0 p337 q337; obtain rfl : ad334 = ad337 := (by injection e337); have qi337 : (0 < t329.length) = True := eq_true (by omega); (try rw [show ((0 : Int)).toNat = 0 from rfl] at hx337_0); (try rw [Addr.add_zero'] at hx337_0); replace p337 := eq_true p337; replace q337 := eq_true q337))
            go_roundg k1
            case measure => have := HK1.out; omega
            case rel => exact ⟨(t335), (wrap32 (x7_1 + 1)), (by first | rfl | (simp; done) | (simp [*]; done)), (by first | rfl | (simp; done) | (simp [*]; done)), H', ⟨by have := HK1.out; omega⟩, ⟨by (with_reducible repeat (first | apply Kd.R_alloc | apply Kd.R_drewN | apply Kd.R_drew)); exact HO_334000.out⟩, ⟨by (with_reducible repeat (first | refine blk_drewN ?_ _ | refine blk_drew ?_ | refine blk_alloc ?_ _)); exact BK333.out⟩, ⟨by repeat (first | (with_reducible first | exact HB.out | apply below_alloc | apply pw_below_drewN | apply below_drew1 | refine below_set ?_ GE333.out) | exact HB.out)⟩⟩
           ·rw [if_neg c23] at H
            have c23b0 : (t335 == 0) = false := beq_eq_false_iff_ne.mpr c23
            have c23b1 : (t335 != 0) = true := bne_iff_ne.mpr c23
            obtain rfl := Option.some.inj H
            have hcz27_0 : wr.cell? ⟨gb333, 0, none⟩ = some (.slice (some ad334) t329.length co10) := (blk_cell BK333.out 0).trans rfl
            have hcz27_1 : wr.cell? ⟨gb333, 1, none⟩ = some (.int .i32 t332) := (blk_cell BK333.out 1).trans rfl
            have hfz27_0 := blk_frozen BK333.out 0
            have hfz27_1 := blk_frozen BK333.out 1
            go_wp2_with (first | ((with_reducible refine gate_callee (f := 15) rfl ?_); refine goesL_ (some 28) rfl rfl Tryz.func15 (by kernel_rfl) rfl #[.agg #[.slice (some ad334) t329.length co10, .int .i32 t332], .int .i32 x7_1] rfl (by (try simp only [List.map_toArray, List.map_cons, List.map_nil]); first | done | rfl | (simp only [List.length_drop, List.length_take]; rfl)) ?_; (with_reducible refine (calendar_Calendar_Period.calls k1 _ _ t329 t332 x7_1 t335 true _ ?side1 ?side2 A13.out).mono ?_); (case side1 => repeat (first | exact (Kd.R_reads' HO_334000.out).2.2 | (with_reducible refine Kd.C_alloc ?_ _) | (with_reducible refine Kd.C_drewN ?_ _) | (with_reducible refine Kd.C_drew ?_))); (case side2 => exact (Kd.R_reads' HO_334000.out).2.1); rintro e w28 ⟨rfl, hb⟩; refine ⟨_, rfl, ?_⟩; have n0_ := Aside0.mk (Kd.R_below (by (with_reducible repeat (first | apply Kd.R_alloc | apply Kd.R_drewN | apply Kd.R_drew)); exact HO_334000.out) hb); have n1_ := Aside0.mk (blk_below (g := gb333) (o := .cells #[.slice (some ad334) t329.length co10, .int .i32 t332] 28 (0, 0)) (by (with_reducible repeat (first | refine blk_drewN ?_ _ | refine blk_drew ?_ | refine blk_alloc ?_ _)); exact BK333.out) hb); have n2_ := Aside0.mk (below_step (by repeat (first | (with_reducible first | exact HB.out | apply below_alloc | apply pw_below_drewN | apply below_drew1 | refine below_set ?_ GE333.out) | exact HB.out)) hb); clear HO_334000; clear BK333; clear HB; have HO_334000 := n0_; have BK333 := n1_; have HB := n2_; clear n0_ n1_ n2_; (try clear hb); (try clear hb2); (try clear hk); (try clear hi); have hcz29_0 : w28.cell? ⟨gb333, 0, none⟩ = some (.slice (some ad334) t329.length co10) := (blk_cell BK333.out 0).trans rfl; have hcz29_1 : w28.cell? ⟨gb333, 1, none⟩ = some (.int .i32 t332) := (blk_cell BK333.out 1).trans rfl; have hfz29_0 := blk_frozen BK333.out 0; have hfz29_1 := blk_frozen BK333.out 1; have p337 : 0 ≤ (0 : Int) := (by omega); have q337 : 0 < (t329.length : Int) := of_decide_eq_true (by first | (with_reducible assumption) | assumption); obtain ⟨ad337, e337, hx337_0⟩ := Kd.at_int (Kd.R_reads' HO_334000.out).2.2 0 p337 q337; obtain rfl : ad334 = ad337 := (by injection e337); have qi337 : (0 < t329.length) = True := eq_true (by omega); (try rw [show ((0 : Int)).toNat = 0 from rfl] at hx337_0); (try rw [Addr.add_zero'] at hx337_0); replace p337 := eq_true p337; replace q337 := eq_true q337))
            go_ret
            exact ⟨by first | rfl | (simp [errW_none, errW_some] <;> rfl) | (simp [*, errW_none, errW_some] <;> rfl), by repeat (first | (with_reducible first | exact HB.out | apply below_alloc | apply pw_below_drewN | apply below_drew1 | refine below_set ?_ GE333.out) | exact HB.out)⟩
          ·rw [if_neg c22] at H
           have c22b0 : (x7_1 == (rd t329 0)) = false := beq_eq_false_iff_ne.mpr c22
           have c22b1 : (x7_1 != (rd t329 0)) = true := bne_iff_ne.mpr c22
           have H' := Aside0.mk H
           clear H
           have hcz30_0 : wr.cell? ⟨gb333, 0, none⟩ = some (.slice (some ad334) t329.length co10) := (blk_cell BK333.out 0).trans rfl
           have hcz30_1 : wr.cell? ⟨gb333, 1, none⟩ = some (.int .i32 t332) := (blk_cell BK333.out 1).trans rfl
           have hfz30_0 := blk_frozen BK333.out 0
           have hfz30_1 := blk_frozen BK333.out 1
           go_wp2_with (first | ((with_reducible refine gate_callee (f := 15) rfl ?_); refine goesL_ (some 28) rfl rfl Tryz.func15 (by kernel_rfl) rfl #[.agg #[.slice (some ad334) t329.length co10, .int .i32 t332], .int .i32 x7_1] rfl (by (try simp only [List.map_toArray, List.map_cons, List.map_nil]); first | done | rfl | (simp only [List.length_drop, List.length_take]; rfl)) ?_; (with_reducible refine (calendar_Calendar_Period.calls k1 _ _ t329 t332 x7_1 t335 true _ ?side1 ?side2 A13.out).mono ?_); (case side1 => repeat (first | exact (Kd.R_reads' HO_334000.out).2.2 | (with_reducible refine Kd.C_alloc ?_ _) | (with_reducible refine Kd.C_drewN ?_ _) | (with_reducible refine Kd.C_drew ?_))); (case side2 => exact (Kd.R_reads' HO_334000.out).2.1); rintro e w31 ⟨rfl, hb⟩; refine ⟨_, rfl, ?_⟩; have n0_ := Aside0.mk (Kd.R_below (by (with_reducible repeat (first | apply Kd.R_alloc | apply Kd.R_drewN | apply Kd.R_drew)); exact HO_334000.out) hb); have n1_ := Aside0.mk (blk_below (g := gb333) (o := .cells #[.slice (some ad334) t329.length co10, .int .i32 t332] 28 (0, 0)) (by (with_reducible repeat (first | refine blk_drewN ?_ _ | refine blk_drew ?_ | refine blk_alloc ?_ _)); exact BK333.out) hb); have n2_ := Aside0.mk (below_step (by repeat (first | (with_reducible first | exact HB.out | apply below_alloc | apply pw_below_drewN | apply below_drew1 | refine below_set ?_ GE333.out) | exact HB.out)) hb); clear HO_334000; clear BK333; clear HB; have HO_334000 := n0_; have BK333 := n1_; have HB := n2_; clear n0_ n1_ n2_; (try clear hb); (try clear hb2); (try clear hk); (try clear hi); have hcz32_0 : w31.cell? ⟨gb333, 0, none⟩ = some (.slice (some ad334) t329.length co10) := (blk_cell BK333.out 0).trans rfl; have hcz32_1 : w31.cell? ⟨gb333, 1, none⟩ = some (.int .i32 t332) := (blk_cell BK333.out 1).trans rfl; have hfz32_0 := blk_frozen BK333.out 0; have hfz32_1 := blk_frozen BK333.out 1; have p337 : 0 ≤ (0 : Int) := (by omega); have q337 : 0 < (t329.length : Int) := of_decide_eq_true (by first | (with_reducible assumption) | assumption); obtain ⟨ad337, e337, hx337_0⟩ := Kd.at_int (Kd.R_reads' HO_334000.out).2.2 0 p337 q337; obtain rfl : ad334 = ad337 := (by injection e337); have qi337 : (0 < t329.length) = True := eq_true (by omega); (try rw [show ((0 : Int)).toNat = 0 from rfl] at hx337_0); (try rw [Addr.add_zero'] at hx337_0); replace p337 := eq_true p337; replace q337 := eq_true q337))
           go_roundg k1
           case measure => have := HK1.out; omega
           case rel => exact ⟨(t335), (wrap32 (x7_1 + 1)), (by first | rfl | (simp; done) | (simp [*]; done)), (by first | rfl | (simp; done) | (simp [*]; done)), H', ⟨by have := HK1.out; omega⟩, ⟨by (with_reducible repeat (first | apply Kd.R_alloc | apply Kd.R_drewN | apply Kd.R_drew)); exact HO_334000.out⟩, ⟨by (with_reducible repeat (first | refine blk_drewN ?_ _ | refine blk_drew ?_ | refine blk_alloc ?_ _)); exact BK333.out⟩, ⟨by repeat (first | (with_reducible first | exact HB.out | apply below_alloc | apply pw_below_drewN | apply below_drew1 | refine below_set ?_ GE333.out) | exact HB.out)⟩⟩
         ·rw [if_neg c21] at H
          exact absurd H (by simp)
      ·replace c14 := Bool.eq_false_iff.mpr c14
       subst c14
       have H1 : (some false) = some r := by rw [if_neg (show ¬ (false = true) by decide)] at H; exact H
       clear H
       have H := H1
       clear H1
       obtain rfl := Option.some.inj H
       have hcz33_0 : wr.cell? ⟨gb333, 0, none⟩ = some (.slice (some ad334) t329.length co10) := (blk_cell BK333.out 0).trans rfl
       have hcz33_1 : wr.cell? ⟨gb333, 1, none⟩ = some (.int .i32 t332) := (blk_cell BK333.out 1).trans rfl
       have hfz33_0 := blk_frozen BK333.out 0
       have hfz33_1 := blk_frozen BK333.out 1
       go_wp2_with (first | ((with_reducible refine gate_callee (f := 15) rfl ?_); refine goesL_ (some 28) rfl rfl Tryz.func15 (by kernel_rfl) rfl #[.agg #[.slice (some ad334) t329.length co10, .int .i32 t332], .int .i32 x7_1] rfl (by (try simp only [List.map_toArray, List.map_cons, List.map_nil]); first | done | rfl | (simp only [List.length_drop, List.length_take]; rfl)) ?_; (with_reducible refine (calendar_Calendar_Period.calls k1 _ _ t329 t332 x7_1 t335 false _ ?side1 ?side2 A13.out).mono ?_); (case side1 => repeat (first | exact (Kd.R_reads' HO_334000.out).2.2 | (with_reducible refine Kd.C_alloc ?_ _) | (with_reducible refine Kd.C_drewN ?_ _) | (with_reducible refine Kd.C_drew ?_))); (case side2 => exact (Kd.R_reads' HO_334000.out).2.1); rintro e w34 ⟨rfl, hb⟩; refine ⟨_, rfl, ?_⟩; have n0_ := Aside0.mk (Kd.R_below (by (with_reducible repeat (first | apply Kd.R_alloc | apply Kd.R_drewN | apply Kd.R_drew)); exact HO_334000.out) hb); have n1_ := Aside0.mk (blk_below (g := gb333) (o := .cells #[.slice (some ad334) t329.length co10, .int .i32 t332] 28 (0, 0)) (by (with_reducible repeat (first | refine blk_drewN ?_ _ | refine blk_drew ?_ | refine blk_alloc ?_ _)); exact BK333.out) hb); have n2_ := Aside0.mk (below_step (by repeat (first | (with_reducible first | exact HB.out | apply below_alloc | apply pw_below_drewN | apply below_drew1 | refine below_set ?_ GE333.out) | exact HB.out)) hb); clear HO_334000; clear BK333; clear HB; have HO_334000 := n0_; have BK333 := n1_; have HB := n2_; clear n0_ n1_ n2_; (try clear hb); (try clear hb2); (try clear hk); (try clear hi)))
       go_ret
       exact ⟨by first | rfl | (simp [errW_none, errW_some] <;> rfl) | (simp [*, errW_none, errW_some] <;> rfl), by repeat (first | (with_reducible first | exact HB.out | apply below_alloc | apply pw_below_drewN | apply below_drew1 | refine below_set ?_ GE333.out) | exact HB.out)⟩
     ·rw [if_neg c12] at H
      have c12b0 : decide (x7_1 < t332) = false := decide_eq_false c12
      clear c12
      replace H := Option.bind_eq_some_iff.mp H
      obtain ⟨t338, A350, H⟩ := H
      replace H : (some (x6_1 == (wrap64 (t338 - 1)))) = some r := H
      have A35 := Aside0.mk A350
      clear A350
      obtain rfl := Option.some.inj H
      have hcz36_0 : wr.cell? ⟨gb333, 0, none⟩ = some (.slice (some ad334) t329.length co10) := (blk_cell BK333.out 0).trans rfl
      have hcz36_1 : wr.cell? ⟨gb333, 1, none⟩ = some (.int .i32 t332) := (blk_cell BK333.out 1).trans rfl
      have hfz36_0 := blk_frozen BK333.out 0
      have hfz36_1 := blk_frozen BK333.out 1
      go_wp2_with (first | ((with_reducible refine gate_callee (f := 16) rfl ?_); refine goesL_ (some 59) rfl rfl Tryz.func16 (by kernel_rfl) rfl #[.agg #[.slice (some ad334) t329.length co10, .int .i32 t332]] rfl (by (try simp only [List.map_toArray, List.map_cons, List.map_nil]); first | done | rfl | (simp only [List.length_drop, List.length_take]; rfl)) ?_; (with_reducible refine (calendar_Calendar_Len.calls _ _ t329 t332 t338 _ ?side1 ?side2 A35.out).mono ?_); (case side1 => repeat (first | exact (Kd.R_reads' HO_334000.out).2.2 | (with_reducible refine Kd.C_alloc ?_ _) | (with_reducible refine Kd.C_drewN ?_ _) | (with_reducible refine Kd.C_drew ?_))); (case side2 => exact (Kd.R_reads' HO_334000.out).2.1); rintro e w37 ⟨rfl, hb⟩; refine ⟨_, rfl, ?_⟩; have n0_ := Aside0.mk (Kd.R_below (by (with_reducible repeat (first | apply Kd.R_alloc | apply Kd.R_drewN | apply Kd.R_drew)); exact HO_334000.out) hb); have n1_ := Aside0.mk (blk_below (g := gb333) (o := .cells #[.slice (some ad334) t329.length co10, .int .i32 t332] 28 (0, 0)) (by (with_reducible repeat (first | refine blk_drewN ?_ _ | refine blk_drew ?_ | refine blk_alloc ?_ _)); exact BK333.out) hb); have n2_ := Aside0.mk (below_step (by repeat (first | (with_reducible first | exact HB.out | apply below_alloc | apply pw_below_drewN | apply below_drew1 | refine below_set ?_ GE333.out) | exact HB.out)) hb); clear HO_334000; clear BK333; clear HB; have HO_334000 := n0_; have BK333 := n1_; have HB := n2_; clear n0_ n1_ n2_; (try clear hb); (try clear hb2); (try clear hk); (try clear hi)))
      go_ret
      exact ⟨by first | rfl | (simp [errW_none, errW_some] <;> rfl) | (simp [*, errW_none, errW_some] <;> rfl), by repeat (first | (with_reducible first | exact HB.out | apply below_alloc | apply pw_below_drewN | apply below_drew1 | refine below_set ?_ GE333.out) | exact HB.out)⟩
  ·rw [if_neg c6] at H
   exact absurd H (by simp)
 ·replace c4 := Bool.eq_false_iff.mpr c4
  subst c4
  have H1 : (some false) = some r := by rw [if_neg (show ¬ (false = true) by decide)] at H; exact H
  clear H
  have H := H1
  clear H1
  obtain rfl := Option.some.inj H
  go_enter Tryz.func4, Tryz.ntmps4
  go_wp2_with (first | ((with_reducible refine gate_callee (f := 12) rfl ?_); refine goesL_ (some 10) rfl rfl Tryz.func12 (by kernel_rfl) rfl #[] rfl (by (try simp only [List.map_toArray, List.map_cons, List.map_nil]); first | done | rfl | (simp only [List.length_drop, List.length_take]; rfl)) ?_; (with_reducible refine (transposallaw08_Awake.calls k  false _ ?side1 A3.out).mono ?_); (case side1 => exact Glob.below (by repeat (first | (with_reducible first | exact HB.out | apply below_alloc | apply pw_below_drewN | apply below_drew1) | exact HB.out)) HG.out); rintro e w38 ⟨rfl, hb⟩; refine ⟨_, rfl, ?_⟩; have n0_ := Aside0.mk (below_step (by repeat (first | (with_reducible first | exact HB.out | apply below_alloc | apply pw_below_drewN | apply below_drew1) | exact HB.out)) hb); clear HB; have HB := n0_; clear n0_; (try clear hb); (try clear hb2); (try clear hk); (try clear hi)))
  go_ret
  exact ⟨by first | rfl | (simp [errW_none, errW_some] <;> rfl) | (simp [*, errW_none, errW_some] <;> rfl), by repeat (first | (with_reducible first | exact HB.out | apply below_alloc | apply pw_below_drewN | apply below_drew1) | exact HB.out)⟩

/-- THE ONE PURE STATEMENT of transposallaw08_CalendarWhole: yours. -/
def transposallaw08_CalendarWhole.Pure : Prop := ∀ (a0 : Int) (l1 : List Int), (Lit.int .i16 a0).wf = true → l1.length ≤ maxLen → l1.length * 1 ≤ 140737488351232 → (∀ x ∈ l1, (Lit.int .u8 x).wf = true) → ∃ k, transposallaw08_CalendarWhole.f k a0 l1 = some true

end Go.Proofs.YtfpfilmdlconhaaGreatDoor.XA
