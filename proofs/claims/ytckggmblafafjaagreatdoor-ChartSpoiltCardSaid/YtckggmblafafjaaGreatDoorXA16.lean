-- Written by a program of this session's (wip/xp) out of the translation; given functions by hand.
import Derived.Test.YtckggmblafafjaaGreatDoorXA0
import Derived.Test.YtckggmblafafjaaGreatDoorXA8
import Derived.Test.YtckggmblafafjaaGreatDoorXA15
namespace Go.Proofs.YtckggmblafafjaaGreatDoor.XA
open Go.RowKit Go.Proofs.YtckggmblafafjaaGreatDoorW.PrintWords Go.Proofs.YtckggmblafafjaaGreatDoorW.PrintLast Go.Proofs.YtckggmblafafjaaGreatDoorW.PrintMore
attribute [local go_sem] max2_int min2_int max_two min_two max_three min_three max_four min_four   -- for this text's walks alone
set_option linter.unusedVariables false
set_option linter.unusedSimpArgs false

/-! ### transposallaw06_Check: function 16 -/
mutual
def transposallaw06_Check.l0 : Nat → List (S26) → Int → List (S26) → Int → Int → Option (Int)
 | 0, _, _, _, _, _ => none
 | k + 1, x0, x3, x13, x14, x15 => if x15 < x14 then (if 0 ≤ x15 then (if x15 < (x13.length : Int) then (if ((rd_T26 x13 x15).f0) = 0 then (transposallaw06_Check.j1 k x0 x3 x15 x13 x14 x15 true ((rd_T26 x13 x15).f0) ((rd_T26 x13 x15).f1) ((rd_T26 x13 x15).f2) ((rd_T26 x13 x15).f3)) else (transposallaw06_Check.j1 k x0 x3 x15 x13 x14 x15 (decide (((rd_T26 x13 x15).f0) > 999999)) ((rd_T26 x13 x15).f0) ((rd_T26 x13 x15).f1) ((rd_T26 x13 x15).f2) ((rd_T26 x13 x15).f3))) else (none)) else (none)) else (transposallaw06_Check.l1 k x0 x0 (x0.length : Int) 0)
def transposallaw06_Check.j1 : Nat → List (S26) → Int → Int → List (S26) → Int → Int → Bool → Int → ByteArray → Int → Int → Option (Int)
 | 0, _, _, _, _, _, _, _, _, _, _, _ => none
 | k + 1, x0, x3, x4, x13, x14, x15, x20, x387000, x387001, x387002, x387003 => if x20 = true then (some 5) else (if x4 > 0 then (transposallaw06_Check.j2 k x0 x13 x14 x15 (decide (x387000 ≤ x3)) x387000 x387001 x387002 x387003) else (transposallaw06_Check.j2 k x0 x13 x14 x15 false x387000 x387001 x387002 x387003))
def transposallaw06_Check.j2 : Nat → List (S26) → List (S26) → Int → Int → Bool → Int → ByteArray → Int → Int → Option (Int)
 | 0, _, _, _, _, _, _, _, _, _ => none
 | k + 1, x0, x13, x14, x15, x29, x387000, x387001, x387002, x387003 => if x29 = true then (some 6) else ((transposallaw06_name.f x387001).bind fun t387 => (if t387 = true then (if x387002 > 4 then (some 9) else (transposallaw06_Check.l0 k x0 x387000 x13 x14 (wrap64 (x15 + 1)))) else (some 10)))
def transposallaw06_Check.l1 : Nat → List (S26) → List (S26) → Int → Int → Option (Int)
 | 0, _, _, _, _ => none
 | k + 1, x0, x50, x51, x52 => if x52 < x51 then (if 0 ≤ x52 then (if x52 < (x50.length : Int) then (if ((rd_T26 x50 x52).f3) = 0 then (transposallaw06_Check.l1 k x0 x50 x51 (wrap64 (x52 + 1))) else ((transposallaw06_get.f k x0 ((rd_T26 x50 x52).f3)).bind fun bt390 => (if bt390.2.2.2.2 = true then (if bt390.2.2.1 = ((rd_T26 x50 x52).f2) then ((transposallaw06_deep.f k x0 ((rd_T26 x50 x52).f0)).bind fun t396 => (if t396 > 12 then (some 11) else (transposallaw06_Check.l1 k x0 x50 x51 (wrap64 (x52 + 1))))) else (some 9)) else (some 8)))) else (none)) else (none)) else (some 0)
end
def transposallaw06_Check.f (k : Nat) (l0 : List (S26)) : Option (Int) := if (l0.length : Int) > 200 then (some 2) else (transposallaw06_Check.l0 k l0 0 l0 (l0.length : Int) 0)
theorem transposallaw06_Check.mono_l : ∀ k, (∀ y0 y1 y2 y3 y4, LeO (transposallaw06_Check.l0 k y0 y1 y2 y3 y4) (transposallaw06_Check.l0 (k + 1) y0 y1 y2 y3 y4)) ∧ (∀ y0 y1 y2 y3 y4 y5 y6 y7 y8 y9 y10, LeO (transposallaw06_Check.j1 k y0 y1 y2 y3 y4 y5 y6 y7 y8 y9 y10) (transposallaw06_Check.j1 (k + 1) y0 y1 y2 y3 y4 y5 y6 y7 y8 y9 y10)) ∧ (∀ y0 y1 y2 y3 y4 y5 y6 y7 y8, LeO (transposallaw06_Check.j2 k y0 y1 y2 y3 y4 y5 y6 y7 y8) (transposallaw06_Check.j2 (k + 1) y0 y1 y2 y3 y4 y5 y6 y7 y8)) ∧ (∀ y0 y1 y2 y3, LeO (transposallaw06_Check.l1 k y0 y1 y2 y3) (transposallaw06_Check.l1 (k + 1) y0 y1 y2 y3))
 | 0 => ⟨fun _ _ _ _ _ r h => by simp [transposallaw06_Check.l0] at h, fun _ _ _ _ _ _ _ _ _ _ _ r h => by simp [transposallaw06_Check.j1] at h, fun _ _ _ _ _ _ _ _ _ r h => by simp [transposallaw06_Check.j2] at h, fun _ _ _ _ r h => by simp [transposallaw06_Check.l1] at h⟩
 | k + 1 => by
  obtain ⟨ih0, ih1, ih2, ih3⟩ := transposallaw06_Check.mono_l k
  refine ⟨?_, ?_, ?_, ?_⟩
  ·intro y0 y1 y2 y3 y4
   unfold transposallaw06_Check.l0
   repeat' first
   | (with_reducible exact ih0 _ _ _ _ _)
   | (with_reducible exact ih1 _ _ _ _ _ _ _ _ _ _ _)
   | (with_reducible exact ih2 _ _ _ _ _ _ _ _ _)
   | (with_reducible exact ih3 _ _ _ _)
   | (with_reducible exact transposallaw06_deep.mono _ _ _)
   | (with_reducible exact transposallaw06_get.mono _ _ _)
   | (with_reducible exact LeO.refl _)
   | (with_reducible exact LeO.none _)
   | (with_reducible refine LeO.ite ?_ ?_)
   | (with_reducible refine LeO.bind ?_ (fun _ => ?_))
   | exact ih0 _ _ _ _ _
   | exact ih1 _ _ _ _ _ _ _ _ _ _ _
   | exact ih2 _ _ _ _ _ _ _ _ _
   | exact ih3 _ _ _ _
   | exact transposallaw06_deep.mono _ _ _
   | exact transposallaw06_get.mono _ _ _
   | exact LeO.none _
   | refine LeO.ite ?_ ?_
   | refine LeO.bind ?_ (fun _ => ?_)
  ·intro y0 y1 y2 y3 y4 y5 y6 y7 y8 y9 y10
   unfold transposallaw06_Check.j1
   repeat' first
   | (with_reducible exact ih0 _ _ _ _ _)
   | (with_reducible exact ih1 _ _ _ _ _ _ _ _ _ _ _)
   | (with_reducible exact ih2 _ _ _ _ _ _ _ _ _)
   | (with_reducible exact ih3 _ _ _ _)
   | (with_reducible exact transposallaw06_deep.mono _ _ _)
   | (with_reducible exact transposallaw06_get.mono _ _ _)
   | (with_reducible exact LeO.refl _)
   | (with_reducible exact LeO.none _)
   | (with_reducible refine LeO.ite ?_ ?_)
   | (with_reducible refine LeO.bind ?_ (fun _ => ?_))
   | exact ih0 _ _ _ _ _
   | exact ih1 _ _ _ _ _ _ _ _ _ _ _
   | exact ih2 _ _ _ _ _ _ _ _ _
   | exact ih3 _ _ _ _
   | exact transposallaw06_deep.mono _ _ _
   | exact transposallaw06_get.mono _ _ _
   | exact LeO.none _
   | refine LeO.ite ?_ ?_
   | refine LeO.bind ?_ (fun _ => ?_)
  ·intro y0 y1 y2 y3 y4 y5 y6 y7 y8
   unfold transposallaw06_Check.j2
   repeat' first
   | (with_reducible exact ih0 _ _ _ _ _)
   | (with_reducible exact ih1 _ _ _ _ _ _ _ _ _ _ _)
   | (with_reducible exact ih2 _ _ _ _ _ _ _ _ _)
   | (with_reducible exact ih3 _ _ _ _)
   | (with_reducible exact transposallaw06_deep.mono _ _ _)
   | (with_reducible exact transposallaw06_get.mono _ _ _)
   | (with_reducible exact LeO.refl _)
   | (with_reducible exact LeO.none _)
   | (with_reducible refine LeO.ite ?_ ?_)
   | (with_reducible refine LeO.bind ?_ (fun _ => ?_))
   | exact ih0 _ _ _ _ _
   | exact ih1 _ _ _ _ _ _ _ _ _ _ _
   | exact ih2 _ _ _ _ _ _ _ _ _
   | exact ih3 _ _ _ _
   | exact transposallaw06_deep.mono _ _ _
   | exact transposallaw06_get.mono _ _ _
   | exact LeO.none _
   | refine LeO.ite ?_ ?_
   | refine LeO.bind ?_ (fun _ => ?_)
  ·intro y0 y1 y2 y3
   unfold transposallaw06_Check.l1
   repeat' first
   | (with_reducible exact ih0 _ _ _ _ _)
   | (with_reducible exact ih1 _ _ _ _ _ _ _ _ _ _ _)
   | (with_reducible exact ih2 _ _ _ _ _ _ _ _ _)
   | (with_reducible exact ih3 _ _ _ _)
   | (with_reducible exact transposallaw06_deep.mono _ _ _)
   | (with_reducible exact transposallaw06_get.mono _ _ _)
   | (with_reducible exact LeO.refl _)
   | (with_reducible exact LeO.none _)
   | (with_reducible refine LeO.ite ?_ ?_)
   | (with_reducible refine LeO.bind ?_ (fun _ => ?_))
   | exact ih0 _ _ _ _ _
   | exact ih1 _ _ _ _ _ _ _ _ _ _ _
   | exact ih2 _ _ _ _ _ _ _ _ _
   | exact ih3 _ _ _ _
   | exact transposallaw06_deep.mono _ _ _
   | exact transposallaw06_get.mono _ _ _
   | exact LeO.none _
   | refine LeO.ite ?_ ?_
   | refine LeO.bind ?_ (fun _ => ?_)
theorem transposallaw06_Check.mono : ∀ a0 k, LeO (transposallaw06_Check.f k a0) (transposallaw06_Check.f (k + 1) a0) := by
 intro a0 k
 obtain ⟨ih0, ih1, ih2, ih3⟩ := transposallaw06_Check.mono_l k
 unfold transposallaw06_Check.f
 repeat' first
   | (with_reducible exact ih0 _ _ _ _ _)
   | (with_reducible exact ih1 _ _ _ _ _ _ _ _ _ _ _)
   | (with_reducible exact ih2 _ _ _ _ _ _ _ _ _)
   | (with_reducible exact ih3 _ _ _ _)
   | (with_reducible exact transposallaw06_deep.mono _ _ _)
   | (with_reducible exact transposallaw06_get.mono _ _ _)
   | (with_reducible exact LeO.refl _)
   | (with_reducible exact LeO.none _)
   | (with_reducible refine LeO.ite ?_ ?_)
   | (with_reducible refine LeO.bind ?_ (fun _ => ?_))
   | exact ih0 _ _ _ _ _
   | exact ih1 _ _ _ _ _ _ _ _ _ _ _
   | exact ih2 _ _ _ _ _ _ _ _ _
   | exact ih3 _ _ _ _
   | exact transposallaw06_deep.mono _ _ _
   | exact transposallaw06_get.mono _ _ _
   | exact LeO.none _
   | refine LeO.ite ?_ ?_
   | refine LeO.bind ?_ (fun _ => ?_)
set_option maxHeartbeats 8000000 in
set_option maxRecDepth 100000 in
theorem transposallaw06_Check.calls (k : Nat) (A0 : Option Addr) (c0 : Nat) (l0 : List (S26)) (r : Int) (w : World) (hr0 : Kd.C k26 w A0 l0.length l0) (hc0 : l0.length ≤ c0) (h : transposallaw06_Check.f k l0 = some r) :
  Calls Tryz.prog 16 #[.slice A0 l0.length c0] w fun e w' => e = .returned (.int .i64 r) ∧ Below w.heap.size w w' := by
 have hu26 := Tryz.underlying26
 have HR0 := Aside0.mk hr0
 have HC0 := Aside0.mk hc0
 clear hr0 hc0
 have HB := Aside0.mk (Below.refl w.heap.size w)
 have H : (if (l0.length : Int) > 200 then (some 2) else (transposallaw06_Check.l0 k l0 0 l0 (l0.length : Int) 0)) = some r := h
 clear h
 by_cases c2 : (l0.length : Int) > 200
 ·rw [if_pos c2] at H
  have c2b0 : decide (200 < (l0.length : Int)) = true := decide_eq_true c2
  have c2b1 : decide (200 < l0.length) = true := decide_eq_true (by omega)
  clear c2
  obtain rfl := Option.some.inj H
  go_enter Tryz.func16, Tryz.ntmps16
  go_wp2
  go_ret
  exact ⟨by first | rfl | (simp [errW_none, errW_some] <;> rfl) | (simp [*, errW_none, errW_some] <;> rfl), by repeat (first | (with_reducible first | exact HB.out | apply below_alloc | apply pw_below_drewN | apply below_drew1) | exact HB.out)⟩
 ·rw [if_neg c2] at H
  have c2b0 : decide (200 < (l0.length : Int)) = false := decide_eq_false c2
  have c2b1 : decide (200 < l0.length) = false := decide_eq_false (by omega)
  clear c2
  have H' := Aside0.mk H
  clear H
  go_enter Tryz.func16, Tryz.ntmps16
  go_wp2
  go_loopg [3, 15] k (fun kq v3 v15 w' => ∃ (x3_1 : Int) (x15_1 : Int), v3 = .int .u32 x3_1 ∧ v15 = .int .i64 x15_1 ∧ Aside0 (transposallaw06_Check.l0 kq l0 x3_1 l0 (l0.length : Int) x15_1 = some r) ∧ Aside0 (kq ≤ k) ∧ Aside0 (Below w.heap.size w w'))
  case atStart => exact ⟨(0), (0), (by first | rfl | (simp; done) | (simp [*]; done)), (by first | rfl | (simp; done) | (simp [*]; done)), H', ⟨Nat.le_refl _⟩, ⟨by repeat (first | (with_reducible first | exact HB.out | apply below_alloc | apply pw_below_drewN | apply below_drew1) | exact HB.out)⟩⟩
  case round =>
   clear H'
   try clear c1
   try clear c2
   try clear c2b0
   try clear c2b1
   try clear p2
   obtain ⟨x3_1, x15_1, rfl, rfl, HA, HK1, HB⟩ := hrel
   cases gk with
   | zero => exact absurd HA.out (by simp [transposallaw06_Check.l0])
   | succ k1 =>
    have H := HA.out
    clear HA
    simp only [transposallaw06_Check.l0] at H
    by_cases c3 : x15_1 < (l0.length : Int)
    ·rw [if_pos c3] at H
     have c3b0 : decide (x15_1 < (l0.length : Int)) = true := decide_eq_true c3
     clear c3
     by_cases c4 : 0 ≤ x15_1
     ·rw [if_pos c4] at H
      have c4b0 : decide (0 ≤ x15_1) = true := decide_eq_true c4
      clear c4
      by_cases c5 : x15_1 < (l0.length : Int)
      ·rw [if_pos c5] at H
       have c5b0 : decide (x15_1 < (l0.length : Int)) = true := decide_eq_true c5
       clear c5
       have HC6 := Aside0.mk H
       clear H
       have p385 : 0 ≤ (x15_1 : Int) := of_decide_eq_true (by first | (with_reducible assumption) | assumption)
       have q385 : x15_1 < (l0.length : Int) := of_decide_eq_true (by first | (with_reducible assumption) | assumption)
       obtain ⟨ad385, e385, hx385_0, hx385_1, hx385_2, hx385_3⟩ := at_T26 HR0.out x15_1 p385 q385
       cases e385
       replace hx385_0 := (HB.out.cell (World.block_lt_of_cell? w _ hx385_0)).trans hx385_0
       replace hx385_1 := (HB.out.cell (World.block_lt_of_cell? w _ hx385_1)).trans hx385_1
       replace hx385_2 := (HB.out.cell (World.block_lt_of_cell? w _ hx385_2)).trans hx385_2
       replace hx385_3 := (HB.out.cell (World.block_lt_of_cell? w _ hx385_3)).trans hx385_3
       replace p385 := eq_true p385
       replace q385 := eq_true q385
       go_upto_region 7 with (first | ((with_reducible refine gate_dst (N := 5) rfl ?_); refine box_event ?hg (N := 5) ?hd (cs := #[.int .u32 0, .string (⟨#[]⟩ : ByteArray), .int .u8 0, .int .u32 0]) (t := 26) ?hr ?_; (case hd => rfl); (case hg => rfl); (case hr => first | (go_simp; done) | (go_simp; rfl)); intro gb386 hg w7 hbox hb; have n0_ := Aside0.mk (below_step (by repeat (first | (with_reducible first | exact HB.out | apply below_alloc | apply pw_below_drewN | apply below_drew1) | exact HB.out)) hb); have n1_ := Aside0.mk (hbox); have n2_ := Aside0.mk ((by rw [hg]; exact (below_size (by repeat (first | (with_reducible first | exact HB.out | apply below_alloc | apply pw_below_drewN | apply below_drew1) | exact HB.out))) : w.heap.size ≤ gb386)); have n3_ := Aside0.mk ((by rw [hg]; exact (below_size (by repeat (first | (with_reducible first | exact HB.out | apply below_alloc | apply pw_below_drewN | apply below_drew1) | exact HB.out))) : w.heap.size ≤ gb386)); clear HB; have HB := n0_; have BK386 := n1_; have GW386 := n2_; have GE386 := n3_; clear n0_ n1_ n2_ n3_; clear hb hbox hg; have hcz8_0 : w7.cell? ⟨gb386, 0, none⟩ = some (.int .u32 0) := (blk_cell BK386.out 0).trans rfl; have hcz8_1 : w7.cell? ⟨gb386, 1, none⟩ = some (.string (⟨#[]⟩ : ByteArray)) := (blk_cell BK386.out 1).trans rfl; have hcz8_2 : w7.cell? ⟨gb386, 2, none⟩ = some (.int .u8 0) := (blk_cell BK386.out 2).trans rfl; have hcz8_3 : w7.cell? ⟨gb386, 3, none⟩ = some (.int .u32 0) := (blk_cell BK386.out 3).trans rfl; have hfz8_0 := blk_frozen BK386.out 0; have hfz8_1 := blk_frozen BK386.out 1; have hfz8_2 := blk_frozen BK386.out 2; have hfz8_3 := blk_frozen BK386.out 3))
       (try simp only [Act.put, List.setIfInBounds_toArray, List.set_cons_zero, List.set_cons_succ])
       go_cut [20] (fun v20 wc => ∃ (kq : Nat) (x20_5 : Bool), v20 = .bool x20_5 ∧ Aside0 (transposallaw06_Check.j1 kq l0 x3_1 x15_1 l0 (l0.length : Int) x15_1 x20_5 ((rd_T26 l0 x15_1).f0) ((rd_T26 l0 x15_1).f1) ((rd_T26 l0 x15_1).f2) ((rd_T26 l0 x15_1).f3) = some r) ∧ Aside0 (kq ≤ k1) ∧ Aside0 (wc.heap[gb386]? = some (.cells #[.int .u32 ((rd_T26 l0 x15_1).f0), .string ((rd_T26 l0 x15_1).f1), .int .u8 ((rd_T26 l0 x15_1).f2), .int .u32 ((rd_T26 l0 x15_1).f3)] 26 (0, 0))) ∧ Aside0 (Below w.heap.size w wc))
       case first =>
        have H := HC6.out
        clear HC6
        by_cases c9 : ((rd_T26 l0 x15_1).f0) = 0
        ·rw [if_pos c9] at H
         have c9b0 : (((rd_T26 l0 x15_1).f0) == 0) = true := beq_iff_eq.mpr c9
         have c9b1 : (((rd_T26 l0 x15_1).f0) != 0) = false := bne_eq_false_iff_eq.mpr c9
         clear c9
         (first | rw [c9b0] | (simp only [i64_w, i32_w]; rw [c9b0]) | skip)
         have H' := Aside0.mk H
         clear H
         have hcz10_0 : w7.cell? ⟨gb386, 0, none⟩ = some (.int .u32 0) := (blk_cell BK386.out 0).trans rfl
         have hcz10_1 : w7.cell? ⟨gb386, 1, none⟩ = some (.string (⟨#[]⟩ : ByteArray)) := (blk_cell BK386.out 1).trans rfl
         have hcz10_2 : w7.cell? ⟨gb386, 2, none⟩ = some (.int .u8 0) := (blk_cell BK386.out 2).trans rfl
         have hcz10_3 : w7.cell? ⟨gb386, 3, none⟩ = some (.int .u32 0) := (blk_cell BK386.out 3).trans rfl
         have hfz10_0 := blk_frozen BK386.out 0
         have hfz10_1 := blk_frozen BK386.out 1
         have hfz10_2 := blk_frozen BK386.out 2
         have hfz10_3 := blk_frozen BK386.out 3
         go_wp2
         go_meet
         case rel => exact ⟨_, (true), (by first | rfl | (simp; done) | (simp [*]; done)), H', ⟨by have := HK1.out; first | omega | exact Nat.le_refl _⟩, ⟨by (with_reducible repeat (first | refine blk_drewN ?_ _ | refine blk_drew ?_ | refine blk_alloc ?_ _)); refine blk_put (cs := #[.int .u32 ((rd_T26 l0 x15_1).f0), .string ((rd_T26 l0 x15_1).f1), .int .u8 ((rd_T26 l0 x15_1).f2), .int .u32 0]) ?_ 3 _ rfl; (with_reducible repeat (first | refine blk_drewN ?_ _ | refine blk_drew ?_ | refine blk_alloc ?_ _)); refine blk_put (cs := #[.int .u32 ((rd_T26 l0 x15_1).f0), .string ((rd_T26 l0 x15_1).f1), .int .u8 0, .int .u32 0]) ?_ 2 _ rfl; (with_reducible repeat (first | refine blk_drewN ?_ _ | refine blk_drew ?_ | refine blk_alloc ?_ _)); refine blk_put (cs := #[.int .u32 ((rd_T26 l0 x15_1).f0), .string (⟨#[]⟩ : ByteArray), .int .u8 0, .int .u32 0]) ?_ 1 _ rfl; (with_reducible repeat (first | refine blk_drewN ?_ _ | refine blk_drew ?_ | refine blk_alloc ?_ _)); refine blk_put (cs := #[.int .u32 0, .string (⟨#[]⟩ : ByteArray), .int .u8 0, .int .u32 0]) ?_ 0 _ rfl; (with_reducible repeat (first | refine blk_drewN ?_ _ | refine blk_drew ?_ | refine blk_alloc ?_ _)); exact BK386.out⟩, ⟨by repeat (first | (with_reducible first | exact HB.out | apply below_alloc | apply pw_below_drewN | apply below_drew1 | refine below_set ?_ GE386.out) | exact HB.out)⟩⟩
        ·rw [if_neg c9] at H
         have c9b0 : (((rd_T26 l0 x15_1).f0) == 0) = false := beq_eq_false_iff_ne.mpr c9
         have c9b1 : (((rd_T26 l0 x15_1).f0) != 0) = true := bne_iff_ne.mpr c9
         (first | rw [c9b0] | (simp only [i64_w, i32_w]; rw [c9b0]) | skip)
         have H' := Aside0.mk H
         clear H
         have hcz11_0 : w7.cell? ⟨gb386, 0, none⟩ = some (.int .u32 0) := (blk_cell BK386.out 0).trans rfl
         have hcz11_1 : w7.cell? ⟨gb386, 1, none⟩ = some (.string (⟨#[]⟩ : ByteArray)) := (blk_cell BK386.out 1).trans rfl
         have hcz11_2 : w7.cell? ⟨gb386, 2, none⟩ = some (.int .u8 0) := (blk_cell BK386.out 2).trans rfl
         have hcz11_3 : w7.cell? ⟨gb386, 3, none⟩ = some (.int .u32 0) := (blk_cell BK386.out 3).trans rfl
         have hfz11_0 := blk_frozen BK386.out 0
         have hfz11_1 := blk_frozen BK386.out 1
         have hfz11_2 := blk_frozen BK386.out 2
         have hfz11_3 := blk_frozen BK386.out 3
         go_wp2
         go_meet
         case rel => exact ⟨_, (decide (((rd_T26 l0 x15_1).f0) > 999999)), (by first | rfl | (simp; done) | (simp [*]; done)), H', ⟨by have := HK1.out; first | omega | exact Nat.le_refl _⟩, ⟨by (with_reducible repeat (first | refine blk_drewN ?_ _ | refine blk_drew ?_ | refine blk_alloc ?_ _)); refine blk_put (cs := #[.int .u32 ((rd_T26 l0 x15_1).f0), .string ((rd_T26 l0 x15_1).f1), .int .u8 ((rd_T26 l0 x15_1).f2), .int .u32 0]) ?_ 3 _ rfl; (with_reducible repeat (first | refine blk_drewN ?_ _ | refine blk_drew ?_ | refine blk_alloc ?_ _)); refine blk_put (cs := #[.int .u32 ((rd_T26 l0 x15_1).f0), .string ((rd_T26 l0 x15_1).f1), .int .u8 0, .int .u32 0]) ?_ 2 _ rfl; (with_reducible repeat (first | refine blk_drewN ?_ _ | refine blk_drew ?_ | refine blk_alloc ?_ _)); refine blk_put (cs := #[.int .u32 ((rd_T26 l0 x15_1).f0), .string (⟨#[]⟩ : ByteArray), .int .u8 0, .int .u32 0]) ?_ 1 _ rfl; (with_reducible repeat (first | refine blk_drewN ?_ _ | refine blk_drew ?_ | refine blk_alloc ?_ _)); refine blk_put (cs := #[.int .u32 0, .string (⟨#[]⟩ : ByteArray), .int .u8 0, .int .u32 0]) ?_ 0 _ rfl; (with_reducible repeat (first | refine blk_drewN ?_ _ | refine blk_drew ?_ | refine blk_alloc ?_ _)); exact BK386.out⟩, ⟨by repeat (first | (with_reducible first | exact HB.out | apply below_alloc | apply pw_below_drewN | apply below_drew1 | refine below_set ?_ GE386.out) | exact HB.out)⟩⟩
       case rest =>
        clear HC6
        try clear c1
        try clear c2
        try clear c2b0
        try clear c2b1
        try clear p2
        try clear c3
        try clear c3b0
        try clear p3
        try clear q3
        try clear hx3
        try clear c4
        try clear c4b0
        try clear c5
        try clear c5b0
        try clear c9
        try clear c9b0
        try clear c9b1
        try clear hcz10_0
        try clear hcz10_1
        try clear hcz10_2
        try clear hcz10_3
        try clear hcz11_0
        try clear hcz11_1
        try clear hcz11_2
        try clear hcz11_3
        try clear hcz8_0
        try clear hcz8_1
        try clear hcz8_2
        try clear hcz8_3
        try clear hfz10_0
        try clear hfz10_1
        try clear hfz10_2
        try clear hfz10_3
        try clear hfz11_0
        try clear hfz11_1
        try clear hfz11_2
        try clear hfz11_3
        try clear hfz8_0
        try clear hfz8_1
        try clear hfz8_2
        try clear hfz8_3
        try clear hx385_0
        try clear hx385_1
        try clear hx385_2
        try clear hx385_3
        try clear p2
        try clear p385
        try clear q385
        obtain ⟨kq, x20_5, rfl, HA, HJ5, BK386, HB⟩ := hcut
        cases kq with
        | zero => exact absurd HA.out (by simp [transposallaw06_Check.j1])
        | succ kj5 =>
         have H := HA.out
         clear HA
         simp only [transposallaw06_Check.j1] at H
         by_cases c12 : x20_5 = true
         ·subst c12
          have H1 : (some 5) = some r := by rw [if_pos rfl] at H; exact H
          clear H
          have H := H1
          clear H1
          obtain rfl := Option.some.inj H
          go_wp2
          go_ret
          exact ⟨by first | rfl | (simp [errW_none, errW_some] <;> rfl) | (simp [*, errW_none, errW_some] <;> rfl), by repeat (first | (with_reducible first | exact HB.out | apply below_alloc | apply pw_below_drewN | apply below_drew1 | refine below_set ?_ GE386.out) | exact HB.out)⟩
         ·replace c12 := Bool.eq_false_iff.mpr c12
          subst c12
          have H1 : (if x15_1 > 0 then (transposallaw06_Check.j2 kj5 l0 l0 (l0.length : Int) x15_1 (decide (((rd_T26 l0 x15_1).f0) ≤ x3_1)) ((rd_T26 l0 x15_1).f0) ((rd_T26 l0 x15_1).f1) ((rd_T26 l0 x15_1).f2) ((rd_T26 l0 x15_1).f3)) else (transposallaw06_Check.j2 kj5 l0 l0 (l0.length : Int) x15_1 false ((rd_T26 l0 x15_1).f0) ((rd_T26 l0 x15_1).f1) ((rd_T26 l0 x15_1).f2) ((rd_T26 l0 x15_1).f3))) = some r := by rw [if_neg (show ¬ (false = true) by decide)] at H; exact H
          clear H
          have H := H1
          clear H1
          have HC13 := Aside0.mk H
          clear H
          go_upto_region 9 with (fail)
          go_cut [29] (fun v29 wc => ∃ (kq : Nat) (x29_12 : Bool), v29 = .bool x29_12 ∧ Aside0 (transposallaw06_Check.j2 kq l0 l0 (l0.length : Int) x15_1 x29_12 ((rd_T26 l0 x15_1).f0) ((rd_T26 l0 x15_1).f1) ((rd_T26 l0 x15_1).f2) ((rd_T26 l0 x15_1).f3) = some r) ∧ Aside0 (kq ≤ kj5) ∧ Aside0 (wc.heap[gb386]? = some (.cells #[.int .u32 ((rd_T26 l0 x15_1).f0), .string ((rd_T26 l0 x15_1).f1), .int .u8 ((rd_T26 l0 x15_1).f2), .int .u32 ((rd_T26 l0 x15_1).f3)] 26 (0, 0))) ∧ Aside0 (Below w.heap.size w wc))
          case first =>
           have H := HC13.out
           clear HC13
           by_cases c14 : x15_1 > 0
           ·rw [if_pos c14] at H
            have c14b0 : decide (0 < x15_1) = true := decide_eq_true c14
            clear c14
            (first | rw [c14b0] | (simp only [i64_w, i32_w]; rw [c14b0]) | skip)
            have H' := Aside0.mk H
            clear H
            have hcz15_0 : wc.cell? ⟨gb386, 0, none⟩ = some (.int .u32 ((rd_T26 l0 x15_1).f0)) := (blk_cell BK386.out 0).trans rfl
            have hcz15_1 : wc.cell? ⟨gb386, 1, none⟩ = some (.string ((rd_T26 l0 x15_1).f1)) := (blk_cell BK386.out 1).trans rfl
            have hcz15_2 : wc.cell? ⟨gb386, 2, none⟩ = some (.int .u8 ((rd_T26 l0 x15_1).f2)) := (blk_cell BK386.out 2).trans rfl
            have hcz15_3 : wc.cell? ⟨gb386, 3, none⟩ = some (.int .u32 ((rd_T26 l0 x15_1).f3)) := (blk_cell BK386.out 3).trans rfl
            have hfz15_0 := blk_frozen BK386.out 0
            have hfz15_1 := blk_frozen BK386.out 1
            have hfz15_2 := blk_frozen BK386.out 2
            have hfz15_3 := blk_frozen BK386.out 3
            go_wp2
            go_meet
            case rel => exact ⟨_, (decide (((rd_T26 l0 x15_1).f0) ≤ x3_1)), (by first | rfl | (simp; done) | (simp [*]; done)), H', ⟨by have := HK1.out; have := HJ5.out; first | omega | exact Nat.le_refl _⟩, ⟨by (with_reducible repeat (first | refine blk_drewN ?_ _ | refine blk_drew ?_ | refine blk_alloc ?_ _)); exact BK386.out⟩, ⟨by repeat (first | (with_reducible first | exact HB.out | apply below_alloc | apply pw_below_drewN | apply below_drew1 | refine below_set ?_ GE386.out) | exact HB.out)⟩⟩
           ·rw [if_neg c14] at H
            have c14b0 : decide (0 < x15_1) = false := decide_eq_false c14
            clear c14
            (first | rw [c14b0] | (simp only [i64_w, i32_w]; rw [c14b0]) | skip)
            have H' := Aside0.mk H
            clear H
            go_wp2
            go_meet
            case rel => exact ⟨_, (false), (by first | rfl | (simp; done) | (simp [*]; done)), H', ⟨by have := HK1.out; have := HJ5.out; first | omega | exact Nat.le_refl _⟩, ⟨by (with_reducible repeat (first | refine blk_drewN ?_ _ | refine blk_drew ?_ | refine blk_alloc ?_ _)); exact BK386.out⟩, ⟨by repeat (first | (with_reducible first | exact HB.out | apply below_alloc | apply pw_below_drewN | apply below_drew1 | refine below_set ?_ GE386.out) | exact HB.out)⟩⟩
          case rest =>
           clear HC13
           try clear c1
           try clear c2
           try clear c2b0
           try clear c2b1
           try clear p2
           try clear c3
           try clear c3b0
           try clear p3
           try clear q3
           try clear hx3
           try clear c4
           try clear c4b0
           try clear c5
           try clear c5b0
           try clear c9
           try clear c9b0
           try clear c9b1
           try clear c12
           try clear c14
           try clear c14b0
           try clear hcz10_0
           try clear hcz10_1
           try clear hcz10_2
           try clear hcz10_3
           try clear hcz11_0
           try clear hcz11_1
           try clear hcz11_2
           try clear hcz11_3
           try clear hcz15_0
           try clear hcz15_1
           try clear hcz15_2
           try clear hcz15_3
           try clear hcz8_0
           try clear hcz8_1
           try clear hcz8_2
           try clear hcz8_3
           try clear hfz10_0
           try clear hfz10_1
           try clear hfz10_2
           try clear hfz10_3
           try clear hfz11_0
           try clear hfz11_1
           try clear hfz11_2
           try clear hfz11_3
           try clear hfz15_0
           try clear hfz15_1
           try clear hfz15_2
           try clear hfz15_3
           try clear hfz8_0
           try clear hfz8_1
           try clear hfz8_2
           try clear hfz8_3
           try clear hx385_0
           try clear hx385_1
           try clear hx385_2
           try clear hx385_3
           try clear p2
           try clear p3
           try clear p385
           try clear q3
           try clear q385
           obtain ⟨kq, x29_12, rfl, HA, HJ12, BK386, HB⟩ := hcut
           cases kq with
           | zero => exact absurd HA.out (by simp [transposallaw06_Check.j2])
           | succ kj12 =>
            have H := HA.out
            clear HA
            simp only [transposallaw06_Check.j2] at H
            by_cases c16 : x29_12 = true
            ·subst c16
             have H1 : (some 6) = some r := by rw [if_pos rfl] at H; exact H
             clear H
             have H := H1
             clear H1
             obtain rfl := Option.some.inj H
             go_wp2
             go_ret
             exact ⟨by first | rfl | (simp [errW_none, errW_some] <;> rfl) | (simp [*, errW_none, errW_some] <;> rfl), by repeat (first | (with_reducible first | exact HB.out | apply below_alloc | apply pw_below_drewN | apply below_drew1 | refine below_set ?_ GE386.out) | exact HB.out)⟩
            ·replace c16 := Bool.eq_false_iff.mpr c16
             subst c16
             have H1 : ((transposallaw06_name.f ((rd_T26 l0 x15_1).f1)).bind fun t387 => (if t387 = true then (if ((rd_T26 l0 x15_1).f2) > 4 then (some 9) else (transposallaw06_Check.l0 kj12 l0 ((rd_T26 l0 x15_1).f0) l0 (l0.length : Int) (wrap64 (x15_1 + 1)))) else (some 10))) = some r := by rw [if_neg (show ¬ (false = true) by decide)] at H; exact H
             clear H
             have H := H1
             clear H1
             replace H := Option.bind_eq_some_iff.mp H
             obtain ⟨t387, A170, H⟩ := H
             replace H : (if t387 = true then (if ((rd_T26 l0 x15_1).f2) > 4 then (some 9) else (transposallaw06_Check.l0 kj12 l0 ((rd_T26 l0 x15_1).f0) l0 (l0.length : Int) (wrap64 (x15_1 + 1)))) else (some 10)) = some r := H
             have A17 := Aside0.mk A170
             clear A170
             by_cases c18 : t387 = true
             ·subst c18
              have H1 : (if ((rd_T26 l0 x15_1).f2) > 4 then (some 9) else (transposallaw06_Check.l0 kj12 l0 ((rd_T26 l0 x15_1).f0) l0 (l0.length : Int) (wrap64 (x15_1 + 1)))) = some r := by rw [if_pos rfl] at H; exact H
              clear H
              have H := H1
              clear H1
              by_cases c19 : ((rd_T26 l0 x15_1).f2) > 4
              ·rw [if_pos c19] at H
               have c19b0 : decide (4 < ((rd_T26 l0 x15_1).f2)) = true := decide_eq_true c19
               clear c19
               obtain rfl := Option.some.inj H
               have hcz20_0 : wc.cell? ⟨gb386, 0, none⟩ = some (.int .u32 ((rd_T26 l0 x15_1).f0)) := (blk_cell BK386.out 0).trans rfl
               have hcz20_1 : wc.cell? ⟨gb386, 1, none⟩ = some (.string ((rd_T26 l0 x15_1).f1)) := (blk_cell BK386.out 1).trans rfl
               have hcz20_2 : wc.cell? ⟨gb386, 2, none⟩ = some (.int .u8 ((rd_T26 l0 x15_1).f2)) := (blk_cell BK386.out 2).trans rfl
               have hcz20_3 : wc.cell? ⟨gb386, 3, none⟩ = some (.int .u32 ((rd_T26 l0 x15_1).f3)) := (blk_cell BK386.out 3).trans rfl
               have hfz20_0 := blk_frozen BK386.out 0
               have hfz20_1 := blk_frozen BK386.out 1
               have hfz20_2 := blk_frozen BK386.out 2
               have hfz20_3 := blk_frozen BK386.out 3
               go_wp2_with (first | ((with_reducible refine gate_callee (f := 29) rfl ?_); refine goesL_ (some 41) rfl rfl Tryz.func29 (by kernel_rfl) rfl #[.string ((rd_T26 l0 x15_1).f1)] rfl (by (try simp only [List.map_toArray, List.map_cons, List.map_nil]); first | done | rfl | (simp only [List.length_drop, List.length_take]; rfl)) ?_; (with_reducible refine (transposallaw06_name.calls ((rd_T26 l0 x15_1).f1) true _ A17.out).mono ?_); rintro e w21 ⟨rfl, hb⟩; refine ⟨_, rfl, ?_⟩; have n0_ := Aside0.mk (blk_below (g := gb386) (o := .cells #[.int .u32 ((rd_T26 l0 x15_1).f0), .string ((rd_T26 l0 x15_1).f1), .int .u8 ((rd_T26 l0 x15_1).f2), .int .u32 ((rd_T26 l0 x15_1).f3)] 26 (0, 0)) (by (with_reducible repeat (first | refine blk_drewN ?_ _ | refine blk_drew ?_ | refine blk_alloc ?_ _)); exact BK386.out) hb); have n1_ := Aside0.mk (below_step (by repeat (first | (with_reducible first | exact HB.out | apply below_alloc | apply pw_below_drewN | apply below_drew1 | refine below_set ?_ GE386.out) | exact HB.out)) hb); clear BK386; clear HB; have BK386 := n0_; have HB := n1_; clear n0_ n1_; (try clear hb); (try clear hb2); (try clear hk); (try clear hi); have hcz22_0 : w21.cell? ⟨gb386, 0, none⟩ = some (.int .u32 ((rd_T26 l0 x15_1).f0)) := (blk_cell BK386.out 0).trans rfl; have hcz22_1 : w21.cell? ⟨gb386, 1, none⟩ = some (.string ((rd_T26 l0 x15_1).f1)) := (blk_cell BK386.out 1).trans rfl; have hcz22_2 : w21.cell? ⟨gb386, 2, none⟩ = some (.int .u8 ((rd_T26 l0 x15_1).f2)) := (blk_cell BK386.out 2).trans rfl; have hcz22_3 : w21.cell? ⟨gb386, 3, none⟩ = some (.int .u32 ((rd_T26 l0 x15_1).f3)) := (blk_cell BK386.out 3).trans rfl; have hfz22_0 := blk_frozen BK386.out 0; have hfz22_1 := blk_frozen BK386.out 1; have hfz22_2 := blk_frozen BK386.out 2; have hfz22_3 := blk_frozen BK386.out 3))
               go_ret
               exact ⟨by first | rfl | (simp [errW_none, errW_some] <;> rfl) | (simp [*, errW_none, errW_some] <;> rfl), by repeat (first | (with_reducible first | exact HB.out | apply below_alloc | apply pw_below_drewN | apply below_drew1 | refine below_set ?_ GE386.out) | exact HB.out)⟩
              ·rw [if_neg c19] at H
               have c19b0 : decide (4 < ((rd_T26 l0 x15_1).f2)) = false := decide_eq_false c19
               clear c19
               have H' := Aside0.mk H
               clear H
               have hcz23_0 : wc.cell? ⟨gb386, 0, none⟩ = some (.int .u32 ((rd_T26 l0 x15_1).f0)) := (blk_cell BK386.out 0).trans rfl
               have hcz23_1 : wc.cell? ⟨gb386, 1, none⟩ = some (.string ((rd_T26 l0 x15_1).f1)) := (blk_cell BK386.out 1).trans rfl
               have hcz23_2 : wc.cell? ⟨gb386, 2, none⟩ = some (.int .u8 ((rd_T26 l0 x15_1).f2)) := (blk_cell BK386.out 2).trans rfl
               have hcz23_3 : wc.cell? ⟨gb386, 3, none⟩ = some (.int .u32 ((rd_T26 l0 x15_1).f3)) := (blk_cell BK386.out 3).trans rfl
               have hfz23_0 := blk_frozen BK386.out 0
               have hfz23_1 := blk_frozen BK386.out 1
               have hfz23_2 := blk_frozen BK386.out 2
               have hfz23_3 := blk_frozen BK386.out 3
               go_wp2_with (first | ((with_reducible refine gate_callee (f := 29) rfl ?_); refine goesL_ (some 41) rfl rfl Tryz.func29 (by kernel_rfl) rfl #[.string ((rd_T26 l0 x15_1).f1)] rfl (by (try simp only [List.map_toArray, List.map_cons, List.map_nil]); first | done | rfl | (simp only [List.length_drop, List.length_take]; rfl)) ?_; (with_reducible refine (transposallaw06_name.calls ((rd_T26 l0 x15_1).f1) true _ A17.out).mono ?_); rintro e w24 ⟨rfl, hb⟩; refine ⟨_, rfl, ?_⟩; have n0_ := Aside0.mk (blk_below (g := gb386) (o := .cells #[.int .u32 ((rd_T26 l0 x15_1).f0), .string ((rd_T26 l0 x15_1).f1), .int .u8 ((rd_T26 l0 x15_1).f2), .int .u32 ((rd_T26 l0 x15_1).f3)] 26 (0, 0)) (by (with_reducible repeat (first | refine blk_drewN ?_ _ | refine blk_drew ?_ | refine blk_alloc ?_ _)); exact BK386.out) hb); have n1_ := Aside0.mk (below_step (by repeat (first | (with_reducible first | exact HB.out | apply below_alloc | apply pw_below_drewN | apply below_drew1 | refine below_set ?_ GE386.out) | exact HB.out)) hb); clear BK386; clear HB; have BK386 := n0_; have HB := n1_; clear n0_ n1_; (try clear hb); (try clear hb2); (try clear hk); (try clear hi); have hcz25_0 : w24.cell? ⟨gb386, 0, none⟩ = some (.int .u32 ((rd_T26 l0 x15_1).f0)) := (blk_cell BK386.out 0).trans rfl; have hcz25_1 : w24.cell? ⟨gb386, 1, none⟩ = some (.string ((rd_T26 l0 x15_1).f1)) := (blk_cell BK386.out 1).trans rfl; have hcz25_2 : w24.cell? ⟨gb386, 2, none⟩ = some (.int .u8 ((rd_T26 l0 x15_1).f2)) := (blk_cell BK386.out 2).trans rfl; have hcz25_3 : w24.cell? ⟨gb386, 3, none⟩ = some (.int .u32 ((rd_T26 l0 x15_1).f3)) := (blk_cell BK386.out 3).trans rfl; have hfz25_0 := blk_frozen BK386.out 0; have hfz25_1 := blk_frozen BK386.out 1; have hfz25_2 := blk_frozen BK386.out 2; have hfz25_3 := blk_frozen BK386.out 3))
               go_roundg kj12
               case measure => have := HK1.out; have := HJ5.out; have := HJ12.out; omega
               case rel => exact ⟨(((rd_T26 l0 x15_1).f0)), (wrap64 (x15_1 + 1)), (by first | rfl | (simp; done) | (simp [*]; done)), (by first | rfl | (simp; done) | (simp [*]; done)), H', ⟨by have := HK1.out; have := HJ5.out; have := HJ12.out; omega⟩, ⟨by repeat (first | (with_reducible first | exact HB.out | apply below_alloc | apply pw_below_drewN | apply below_drew1 | refine below_set ?_ GE386.out) | exact HB.out)⟩⟩
             ·replace c18 := Bool.eq_false_iff.mpr c18
              subst c18
              have H1 : (some 10) = some r := by rw [if_neg (show ¬ (false = true) by decide)] at H; exact H
              clear H
              have H := H1
              clear H1
              obtain rfl := Option.some.inj H
              have hcz26_0 : wc.cell? ⟨gb386, 0, none⟩ = some (.int .u32 ((rd_T26 l0 x15_1).f0)) := (blk_cell BK386.out 0).trans rfl
              have hcz26_1 : wc.cell? ⟨gb386, 1, none⟩ = some (.string ((rd_T26 l0 x15_1).f1)) := (blk_cell BK386.out 1).trans rfl
              have hcz26_2 : wc.cell? ⟨gb386, 2, none⟩ = some (.int .u8 ((rd_T26 l0 x15_1).f2)) := (blk_cell BK386.out 2).trans rfl
              have hcz26_3 : wc.cell? ⟨gb386, 3, none⟩ = some (.int .u32 ((rd_T26 l0 x15_1).f3)) := (blk_cell BK386.out 3).trans rfl
              have hfz26_0 := blk_frozen BK386.out 0
              have hfz26_1 := blk_frozen BK386.out 1
              have hfz26_2 := blk_frozen BK386.out 2
              have hfz26_3 := blk_frozen BK386.out 3
              go_wp2_with (first | ((with_reducible refine gate_callee (f := 29) rfl ?_); refine goesL_ (some 41) rfl rfl Tryz.func29 (by kernel_rfl) rfl #[.string ((rd_T26 l0 x15_1).f1)] rfl (by (try simp only [List.map_toArray, List.map_cons, List.map_nil]); first | done | rfl | (simp only [List.length_drop, List.length_take]; rfl)) ?_; (with_reducible refine (transposallaw06_name.calls ((rd_T26 l0 x15_1).f1) false _ A17.out).mono ?_); rintro e w27 ⟨rfl, hb⟩; refine ⟨_, rfl, ?_⟩; have n0_ := Aside0.mk (blk_below (g := gb386) (o := .cells #[.int .u32 ((rd_T26 l0 x15_1).f0), .string ((rd_T26 l0 x15_1).f1), .int .u8 ((rd_T26 l0 x15_1).f2), .int .u32 ((rd_T26 l0 x15_1).f3)] 26 (0, 0)) (by (with_reducible repeat (first | refine blk_drewN ?_ _ | refine blk_drew ?_ | refine blk_alloc ?_ _)); exact BK386.out) hb); have n1_ := Aside0.mk (below_step (by repeat (first | (with_reducible first | exact HB.out | apply below_alloc | apply pw_below_drewN | apply below_drew1 | refine below_set ?_ GE386.out) | exact HB.out)) hb); clear BK386; clear HB; have BK386 := n0_; have HB := n1_; clear n0_ n1_; (try clear hb); (try clear hb2); (try clear hk); (try clear hi)))
              go_ret
              exact ⟨by first | rfl | (simp [errW_none, errW_some] <;> rfl) | (simp [*, errW_none, errW_some] <;> rfl), by repeat (first | (with_reducible first | exact HB.out | apply below_alloc | apply pw_below_drewN | apply below_drew1 | refine below_set ?_ GE386.out) | exact HB.out)⟩
      ·rw [if_neg c5] at H
       exact absurd H (by simp)
     ·rw [if_neg c4] at H
      exact absurd H (by simp)
    ·rw [if_neg c3] at H
     have c3b0 : decide (x15_1 < (l0.length : Int)) = false := decide_eq_false c3
     clear c3
     have H' := Aside0.mk H
     clear H
     go_wp2
     go_loopg [52] k1 (fun kq v52 w' => ∃ (x52_2 : Int), v52 = .int .i64 x52_2 ∧ Aside0 (transposallaw06_Check.l1 kq l0 l0 (l0.length : Int) x52_2 = some r) ∧ Aside0 (kq ≤ k1) ∧ Aside0 (Below w.heap.size w w'))
     case atStart => exact ⟨(0), (by first | rfl | (simp; done) | (simp [*]; done)), H', ⟨Nat.le_refl _⟩, ⟨by repeat (first | (with_reducible first | exact HB.out | apply below_alloc | apply pw_below_drewN | apply below_drew1) | exact HB.out)⟩⟩
     case round =>
      clear H'
      try clear c1
      try clear c2
      try clear c2b0
      try clear c2b1
      try clear p2
      try clear c3
      try clear c3b0
      try clear p3
      try clear q3
      try clear hx3
      try clear c4
      try clear c4b0
      try clear c5
      try clear c5b0
      try clear p6
      try clear c9
      try clear c9b0
      try clear c9b1
      try clear c12
      try clear c14
      try clear c14b0
      try clear c16
      try clear c18
      try clear c19
      try clear c19b0
      try clear hcz10_0
      try clear hcz10_1
      try clear hcz10_2
      try clear hcz10_3
      try clear hcz11_0
      try clear hcz11_1
      try clear hcz11_2
      try clear hcz11_3
      try clear hcz15_0
      try clear hcz15_1
      try clear hcz15_2
      try clear hcz15_3
      try clear hcz20_0
      try clear hcz20_1
      try clear hcz20_2
      try clear hcz20_3
      try clear hcz22_0
      try clear hcz22_1
      try clear hcz22_2
      try clear hcz22_3
      try clear hcz23_0
      try clear hcz23_1
      try clear hcz23_2
      try clear hcz23_3
      try clear hcz25_0
      try clear hcz25_1
      try clear hcz25_2
      try clear hcz25_3
      try clear hcz26_0
      try clear hcz26_1
      try clear hcz26_2
      try clear hcz26_3
      try clear hcz8_0
      try clear hcz8_1
      try clear hcz8_2
      try clear hcz8_3
      try clear hfz10_0
      try clear hfz10_1
      try clear hfz10_2
      try clear hfz10_3
      try clear hfz11_0
      try clear hfz11_1
      try clear hfz11_2
      try clear hfz11_3
      try clear hfz15_0
      try clear hfz15_1
      try clear hfz15_2
      try clear hfz15_3
      try clear hfz20_0
      try clear hfz20_1
      try clear hfz20_2
      try clear hfz20_3
      try clear hfz22_0
      try clear hfz22_1
      try clear hfz22_2
      try clear hfz22_3
      try clear hfz23_0
      try clear hfz23_1
      try clear hfz23_2
      try clear hfz23_3
      try clear hfz25_0
      try clear hfz25_1
      try clear hfz25_2
      try clear hfz25_3
      try clear hfz26_0
      try clear hfz26_1
      try clear hfz26_2
      try clear hfz26_3
      try clear hfz8_0
      try clear hfz8_1
      try clear hfz8_2
      try clear hfz8_3
      try clear hx385_0
      try clear hx385_1
      try clear hx385_2
      try clear hx385_3
      try clear p2
      try clear p3
      try clear p385
      try clear q3
      try clear q385
      obtain ⟨x52_2, rfl, HA, HK2, HB⟩ := hrel
      cases gk with
      | zero => exact absurd HA.out (by simp [transposallaw06_Check.l1])
      | succ k2 =>
       have H := HA.out
       clear HA
       simp only [transposallaw06_Check.l1] at H
       by_cases c28 : x52_2 < (l0.length : Int)
       ·rw [if_pos c28] at H
        have c28b0 : decide (x52_2 < (l0.length : Int)) = true := decide_eq_true c28
        clear c28
        by_cases c29 : 0 ≤ x52_2
        ·rw [if_pos c29] at H
         have c29b0 : decide (0 ≤ x52_2) = true := decide_eq_true c29
         clear c29
         by_cases c30 : x52_2 < (l0.length : Int)
         ·rw [if_pos c30] at H
          have c30b0 : decide (x52_2 < (l0.length : Int)) = true := decide_eq_true c30
          clear c30
          by_cases c31 : ((rd_T26 l0 x52_2).f3) = 0
          ·rw [if_pos c31] at H
           have c31b0 : (((rd_T26 l0 x52_2).f3) == 0) = true := beq_iff_eq.mpr c31
           have c31b1 : (((rd_T26 l0 x52_2).f3) != 0) = false := bne_eq_false_iff_eq.mpr c31
           clear c31
           have H' := Aside0.mk H
           clear H
           have p388 : 0 ≤ (x52_2 : Int) := of_decide_eq_true (by first | (with_reducible assumption) | assumption)
           have q388 : x52_2 < (l0.length : Int) := of_decide_eq_true (by first | (with_reducible assumption) | assumption)
           obtain ⟨ad388, e388, hx388_0, hx388_1, hx388_2, hx388_3⟩ := at_T26 HR0.out x52_2 p388 q388
           cases e388
           replace hx388_0 := (HB.out.cell (World.block_lt_of_cell? w _ hx388_0)).trans hx388_0
           replace hx388_1 := (HB.out.cell (World.block_lt_of_cell? w _ hx388_1)).trans hx388_1
           replace hx388_2 := (HB.out.cell (World.block_lt_of_cell? w _ hx388_2)).trans hx388_2
           replace hx388_3 := (HB.out.cell (World.block_lt_of_cell? w _ hx388_3)).trans hx388_3
           replace p388 := eq_true p388
           replace q388 := eq_true q388
           go_wp2_with (first | ((with_reducible refine gate_dst (N := 7) rfl ?_); refine box_event ?hg (N := 7) ?hd (cs := #[.int .u32 0, .string (⟨#[]⟩ : ByteArray), .int .u8 0, .int .u32 0]) (t := 26) ?hr ?_; (case hd => rfl); (case hg => rfl); (case hr => first | (go_simp; done) | (go_simp; rfl)); intro gb389 hg w32 hbox hb; have n0_ := Aside0.mk (below_step (by repeat (first | (with_reducible first | exact HB.out | apply below_alloc | apply pw_below_drewN | apply below_drew1) | exact HB.out)) hb); have n1_ := Aside0.mk (hbox); have n2_ := Aside0.mk ((by rw [hg]; exact (below_size (by repeat (first | (with_reducible first | exact HB.out | apply below_alloc | apply pw_below_drewN | apply below_drew1) | exact HB.out))) : w.heap.size ≤ gb389)); have n3_ := Aside0.mk ((by rw [hg]; exact (below_size (by repeat (first | (with_reducible first | exact HB.out | apply below_alloc | apply pw_below_drewN | apply below_drew1) | exact HB.out))) : w.heap.size ≤ gb389)); clear HB; have HB := n0_; have BK389 := n1_; have GW389 := n2_; have GE389 := n3_; clear n0_ n1_ n2_ n3_; clear hb hbox hg; have hcz33_0 : w32.cell? ⟨gb389, 0, none⟩ = some (.int .u32 0) := (blk_cell BK389.out 0).trans rfl; have hcz33_1 : w32.cell? ⟨gb389, 1, none⟩ = some (.string (⟨#[]⟩ : ByteArray)) := (blk_cell BK389.out 1).trans rfl; have hcz33_2 : w32.cell? ⟨gb389, 2, none⟩ = some (.int .u8 0) := (blk_cell BK389.out 2).trans rfl; have hcz33_3 : w32.cell? ⟨gb389, 3, none⟩ = some (.int .u32 0) := (blk_cell BK389.out 3).trans rfl; have hfz33_0 := blk_frozen BK389.out 0; have hfz33_1 := blk_frozen BK389.out 1; have hfz33_2 := blk_frozen BK389.out 2; have hfz33_3 := blk_frozen BK389.out 3))
           go_roundg k2
           case measure => have := HK1.out; have := HK2.out; omega
           case rel => exact ⟨(wrap64 (x52_2 + 1)), (by first | rfl | (simp; done) | (simp [*]; done)), H', ⟨by have := HK1.out; have := HK2.out; omega⟩, ⟨by repeat (first | (with_reducible first | exact HB.out | apply below_alloc | apply pw_below_drewN | apply below_drew1 | refine below_set ?_ GE389.out) | exact HB.out)⟩⟩
          ·rw [if_neg c31] at H
           have c31b0 : (((rd_T26 l0 x52_2).f3) == 0) = false := beq_eq_false_iff_ne.mpr c31
           have c31b1 : (((rd_T26 l0 x52_2).f3) != 0) = true := bne_iff_ne.mpr c31
           replace H := Option.bind_eq_some_iff.mp H
           obtain ⟨⟨t390, t391, t392, t393, t394⟩, A340, H⟩ := H
           replace H : (if t394 = true then (if t392 = ((rd_T26 l0 x52_2).f2) then ((transposallaw06_deep.f k2 l0 ((rd_T26 l0 x52_2).f0)).bind fun t396 => (if t396 > 12 then (some 11) else (transposallaw06_Check.l1 k2 l0 l0 (l0.length : Int) (wrap64 (x52_2 + 1))))) else (some 9)) else (some 8)) = some r := H
           have A34 := Aside0.mk A340
           clear A340
           by_cases c35 : t394 = true
           ·subst c35
            have H1 : (if t392 = ((rd_T26 l0 x52_2).f2) then ((transposallaw06_deep.f k2 l0 ((rd_T26 l0 x52_2).f0)).bind fun t396 => (if t396 > 12 then (some 11) else (transposallaw06_Check.l1 k2 l0 l0 (l0.length : Int) (wrap64 (x52_2 + 1))))) else (some 9)) = some r := by rw [if_pos rfl] at H; exact H
            clear H
            have H := H1
            clear H1
            by_cases c36 : t392 = ((rd_T26 l0 x52_2).f2)
            ·rw [if_pos c36] at H
             have c36b0 : (t392 == ((rd_T26 l0 x52_2).f2)) = true := beq_iff_eq.mpr c36
             have c36b1 : (t392 != ((rd_T26 l0 x52_2).f2)) = false := bne_eq_false_iff_eq.mpr c36
             clear c36
             replace H := Option.bind_eq_some_iff.mp H
             obtain ⟨t396, A370, H⟩ := H
             replace H : (if t396 > 12 then (some 11) else (transposallaw06_Check.l1 k2 l0 l0 (l0.length : Int) (wrap64 (x52_2 + 1)))) = some r := H
             have A37 := Aside0.mk A370
             clear A370
             by_cases c38 : t396 > 12
             ·rw [if_pos c38] at H
              have c38b0 : decide (12 < t396) = true := decide_eq_true c38
              clear c38
              obtain rfl := Option.some.inj H
              have p388 : 0 ≤ (x52_2 : Int) := of_decide_eq_true (by first | (with_reducible assumption) | assumption)
              have q388 : x52_2 < (l0.length : Int) := of_decide_eq_true (by first | (with_reducible assumption) | assumption)
              obtain ⟨ad388, e388, hx388_0, hx388_1, hx388_2, hx388_3⟩ := at_T26 HR0.out x52_2 p388 q388
              cases e388
              replace hx388_0 := (HB.out.cell (World.block_lt_of_cell? w _ hx388_0)).trans hx388_0
              replace hx388_1 := (HB.out.cell (World.block_lt_of_cell? w _ hx388_1)).trans hx388_1
              replace hx388_2 := (HB.out.cell (World.block_lt_of_cell? w _ hx388_2)).trans hx388_2
              replace hx388_3 := (HB.out.cell (World.block_lt_of_cell? w _ hx388_3)).trans hx388_3
              replace p388 := eq_true p388
              replace q388 := eq_true q388
              go_wp2_with (first | ((with_reducible refine gate_dst (N := 7) rfl ?_); refine box_event ?hg (N := 7) ?hd (cs := #[.int .u32 0, .string (⟨#[]⟩ : ByteArray), .int .u8 0, .int .u32 0]) (t := 26) ?hr ?_; (case hd => rfl); (case hg => rfl); (case hr => first | (go_simp; done) | (go_simp; rfl)); intro gb389 hg w39 hbox hb; have n0_ := Aside0.mk (below_step (by repeat (first | (with_reducible first | exact HB.out | apply below_alloc | apply pw_below_drewN | apply below_drew1) | exact HB.out)) hb); have n1_ := Aside0.mk (hbox); have n2_ := Aside0.mk ((by rw [hg]; exact (below_size (by repeat (first | (with_reducible first | exact HB.out | apply below_alloc | apply pw_below_drewN | apply below_drew1) | exact HB.out))) : w.heap.size ≤ gb389)); have n3_ := Aside0.mk ((by rw [hg]; exact (below_size (by repeat (first | (with_reducible first | exact HB.out | apply below_alloc | apply pw_below_drewN | apply below_drew1) | exact HB.out))) : w.heap.size ≤ gb389)); clear HB; have HB := n0_; have BK389 := n1_; have GW389 := n2_; have GE389 := n3_; clear n0_ n1_ n2_ n3_; clear hb hbox hg; have hcz40_0 : w39.cell? ⟨gb389, 0, none⟩ = some (.int .u32 0) := (blk_cell BK389.out 0).trans rfl; have hcz40_1 : w39.cell? ⟨gb389, 1, none⟩ = some (.string (⟨#[]⟩ : ByteArray)) := (blk_cell BK389.out 1).trans rfl; have hcz40_2 : w39.cell? ⟨gb389, 2, none⟩ = some (.int .u8 0) := (blk_cell BK389.out 2).trans rfl; have hcz40_3 : w39.cell? ⟨gb389, 3, none⟩ = some (.int .u32 0) := (blk_cell BK389.out 3).trans rfl; have hfz40_0 := blk_frozen BK389.out 0; have hfz40_1 := blk_frozen BK389.out 1; have hfz40_2 := blk_frozen BK389.out 2; have hfz40_3 := blk_frozen BK389.out 3) | ((with_reducible refine gate_callee (f := 30) rfl ?_); refine goesL_ (some 63) rfl rfl Tryz.func30 (by kernel_rfl) rfl #[.slice (some ad388) l0.length c0, .int .u32 ((rd_T26 l0 x52_2).f3)] rfl (by (try simp only [List.map_toArray, List.map_cons, List.map_nil]); first | done | rfl | (simp only [List.length_drop, List.length_take]; rfl)) ?_; (with_reducible refine (transposallaw06_get.calls k2 _ _ l0 ((rd_T26 l0 x52_2).f3) t390 t391 t392 t393 true _ ?side1 ?side2 A34.out).mono ?_); (case side1 => exact Kd.C_below HR0.out (by repeat (first | (with_reducible first | exact HB.out | apply below_alloc | apply pw_below_drewN | apply below_drew1 | refine below_set ?_ GE389.out) | exact HB.out))); (case side2 => exact HC0.out); rintro e w41 ⟨rfl, hb⟩; refine ⟨_, rfl, ?_⟩; have n0_ := Aside0.mk (blk_below (g := gb389) (o := .cells #[.int .u32 ((rd_T26 l0 x52_2).f0), .string ((rd_T26 l0 x52_2).f1), .int .u8 ((rd_T26 l0 x52_2).f2), .int .u32 ((rd_T26 l0 x52_2).f3)] 26 (0, 0)) (by (with_reducible repeat (first | refine blk_drewN ?_ _ | refine blk_drew ?_ | refine blk_alloc ?_ _)); refine blk_put (cs := #[.int .u32 ((rd_T26 l0 x52_2).f0), .string ((rd_T26 l0 x52_2).f1), .int .u8 ((rd_T26 l0 x52_2).f2), .int .u32 0]) ?_ 3 _ rfl; (with_reducible repeat (first | refine blk_drewN ?_ _ | refine blk_drew ?_ | refine blk_alloc ?_ _)); refine blk_put (cs := #[.int .u32 ((rd_T26 l0 x52_2).f0), .string ((rd_T26 l0 x52_2).f1), .int .u8 0, .int .u32 0]) ?_ 2 _ rfl; (with_reducible repeat (first | refine blk_drewN ?_ _ | refine blk_drew ?_ | refine blk_alloc ?_ _)); refine blk_put (cs := #[.int .u32 ((rd_T26 l0 x52_2).f0), .string (⟨#[]⟩ : ByteArray), .int .u8 0, .int .u32 0]) ?_ 1 _ rfl; (with_reducible repeat (first | refine blk_drewN ?_ _ | refine blk_drew ?_ | refine blk_alloc ?_ _)); refine blk_put (cs := #[.int .u32 0, .string (⟨#[]⟩ : ByteArray), .int .u8 0, .int .u32 0]) ?_ 0 _ rfl; (with_reducible repeat (first | refine blk_drewN ?_ _ | refine blk_drew ?_ | refine blk_alloc ?_ _)); exact BK389.out) hb); have n1_ := Aside0.mk (below_step (by repeat (first | (with_reducible first | exact HB.out | apply below_alloc | apply pw_below_drewN | apply below_drew1 | refine below_set ?_ GE389.out) | exact HB.out)) hb); clear BK389; clear HB; have BK389 := n0_; have HB := n1_; clear n0_ n1_; (try clear hb); (try clear hb2); (try clear hk); (try clear hi)) | ((with_reducible refine gate_dst (N := 8) rfl ?_); refine box_event ?hg (N := 8) ?hd (cs := #[.int .u32 0, .string (⟨#[]⟩ : ByteArray), .int .u8 0, .int .u32 0]) (t := 26) ?hr ?_; (case hd => rfl); (case hg => rfl); (case hr => first | (go_simp; done) | (go_simp; rfl)); intro gb395 hg w42 hbox hb; have n0_ := Aside0.mk (blk_below (g := gb389) (o := .cells #[.int .u32 ((rd_T26 l0 x52_2).f0), .string ((rd_T26 l0 x52_2).f1), .int .u8 ((rd_T26 l0 x52_2).f2), .int .u32 ((rd_T26 l0 x52_2).f3)] 26 (0, 0)) (by (with_reducible repeat (first | refine blk_drewN ?_ _ | refine blk_drew ?_ | refine blk_alloc ?_ _)); exact BK389.out) hb); have n1_ := Aside0.mk (below_step (by repeat (first | (with_reducible first | exact HB.out | apply below_alloc | apply pw_below_drewN | apply below_drew1 | refine below_set ?_ GE389.out) | exact HB.out)) hb); have n2_ := Aside0.mk (hbox); have n3_ := Aside0.mk ((by rw [hg]; exact (below_size (by repeat (first | (with_reducible first | exact HB.out | apply below_alloc | apply pw_below_drewN | apply below_drew1 | refine below_set ?_ GE389.out) | exact HB.out))) : w.heap.size ≤ gb395)); have n4_ := Aside0.mk ((by rw [hg]; exact (below_size (by repeat (first | (with_reducible first | exact HB.out | apply below_alloc | apply pw_below_drewN | apply below_drew1 | refine below_set ?_ GE389.out) | exact HB.out))) : w.heap.size ≤ gb395)); have n5_ := Aside0.mk ((by rw [hg]; exact Nat.ne_of_lt (blk_lt (g := gb389) (o := .cells #[.int .u32 ((rd_T26 l0 x52_2).f0), .string ((rd_T26 l0 x52_2).f1), .int .u8 ((rd_T26 l0 x52_2).f2), .int .u32 ((rd_T26 l0 x52_2).f3)] 26 (0, 0)) (by (with_reducible repeat (first | refine blk_drewN ?_ _ | refine blk_drew ?_ | refine blk_alloc ?_ _)); exact BK389.out)) : gb389 ≠ gb395)); have n6_ := Aside0.mk ((by rw [hg]; exact Nat.ne_of_gt (blk_lt (g := gb389) (o := .cells #[.int .u32 ((rd_T26 l0 x52_2).f0), .string ((rd_T26 l0 x52_2).f1), .int .u8 ((rd_T26 l0 x52_2).f2), .int .u32 ((rd_T26 l0 x52_2).f3)] 26 (0, 0)) (by (with_reducible repeat (first | refine blk_drewN ?_ _ | refine blk_drew ?_ | refine blk_alloc ?_ _)); exact BK389.out)) : gb395 ≠ gb389)); clear BK389; clear HB; have BK389 := n0_; have HB := n1_; have BK395 := n2_; have GW395 := n3_; have GE395 := n4_; have NB389_395 := n5_; have NB395_389 := n6_; clear n0_ n1_ n2_ n3_ n4_ n5_ n6_; clear hb hbox hg; have hnb43 := NB395_389.out; have hnc43 := NB389_395.out; have hcz44_0 : w42.cell? ⟨gb395, 0, none⟩ = some (.int .u32 0) := (blk_cell BK395.out 0).trans rfl; have hcz44_1 : w42.cell? ⟨gb395, 1, none⟩ = some (.string (⟨#[]⟩ : ByteArray)) := (blk_cell BK395.out 1).trans rfl; have hcz44_2 : w42.cell? ⟨gb395, 2, none⟩ = some (.int .u8 0) := (blk_cell BK395.out 2).trans rfl; have hcz44_3 : w42.cell? ⟨gb395, 3, none⟩ = some (.int .u32 0) := (blk_cell BK395.out 3).trans rfl; have hfz44_0 := blk_frozen BK395.out 0; have hfz44_1 := blk_frozen BK395.out 1; have hfz44_2 := blk_frozen BK395.out 2; have hfz44_3 := blk_frozen BK395.out 3; have hcz45_0 : w42.cell? ⟨gb389, 0, none⟩ = some (.int .u32 ((rd_T26 l0 x52_2).f0)) := (blk_cell BK389.out 0).trans rfl; have hcz45_1 : w42.cell? ⟨gb389, 1, none⟩ = some (.string ((rd_T26 l0 x52_2).f1)) := (blk_cell BK389.out 1).trans rfl; have hcz45_2 : w42.cell? ⟨gb389, 2, none⟩ = some (.int .u8 ((rd_T26 l0 x52_2).f2)) := (blk_cell BK389.out 2).trans rfl; have hcz45_3 : w42.cell? ⟨gb389, 3, none⟩ = some (.int .u32 ((rd_T26 l0 x52_2).f3)) := (blk_cell BK389.out 3).trans rfl; have hfz45_0 := blk_frozen BK389.out 0; have hfz45_1 := blk_frozen BK389.out 1; have hfz45_2 := blk_frozen BK389.out 2; have hfz45_3 := blk_frozen BK389.out 3) | ((with_reducible refine gate_callee (f := 22) rfl ?_); refine goesL_ (some 76) rfl rfl Tryz.func22 (by kernel_rfl) rfl #[.slice (some ad388) l0.length c0, .int .u32 ((rd_T26 l0 x52_2).f0)] rfl (by (try simp only [List.map_toArray, List.map_cons, List.map_nil]); first | done | rfl | (simp only [List.length_drop, List.length_take]; rfl)) ?_; (with_reducible refine (transposallaw06_deep.calls k2 _ _ l0 ((rd_T26 l0 x52_2).f0) t396 _ ?side1 ?side2 A37.out).mono ?_); (case side1 => exact Kd.C_below HR0.out (by repeat (first | (with_reducible first | exact HB.out | apply below_alloc | apply pw_below_drewN | apply below_drew1 | refine below_set ?_ GE389.out | refine below_set ?_ GE395.out) | exact HB.out))); (case side2 => exact HC0.out); rintro e w46 ⟨rfl, hb⟩; refine ⟨_, rfl, ?_⟩; have n0_ := Aside0.mk (blk_below (g := gb389) (o := .cells #[.int .u32 ((rd_T26 l0 x52_2).f0), .string ((rd_T26 l0 x52_2).f1), .int .u8 ((rd_T26 l0 x52_2).f2), .int .u32 ((rd_T26 l0 x52_2).f3)] 26 (0, 0)) (by (with_reducible repeat (first | refine blk_drewN ?_ _ | refine blk_drew ?_ | refine blk_alloc ?_ _)); refine blk_far ?_ NB389_395.out _; (with_reducible repeat (first | refine blk_drewN ?_ _ | refine blk_drew ?_ | refine blk_alloc ?_ _)); refine blk_far ?_ NB389_395.out _; (with_reducible repeat (first | refine blk_drewN ?_ _ | refine blk_drew ?_ | refine blk_alloc ?_ _)); refine blk_far ?_ NB389_395.out _; (with_reducible repeat (first | refine blk_drewN ?_ _ | refine blk_drew ?_ | refine blk_alloc ?_ _)); refine blk_far ?_ NB389_395.out _; (with_reducible repeat (first | refine blk_drewN ?_ _ | refine blk_drew ?_ | refine blk_alloc ?_ _)); exact BK389.out) hb); have n1_ := Aside0.mk (blk_below (g := gb395) (o := .cells #[.int .u32 t390, .string t391, .int .u8 t392, .int .u32 t393] 26 (0, 0)) (by (with_reducible repeat (first | refine blk_drewN ?_ _ | refine blk_drew ?_ | refine blk_alloc ?_ _)); refine blk_put (cs := #[.int .u32 t390, .string t391, .int .u8 t392, .int .u32 0]) ?_ 3 _ rfl; (with_reducible repeat (first | refine blk_drewN ?_ _ | refine blk_drew ?_ | refine blk_alloc ?_ _)); refine blk_put (cs := #[.int .u32 t390, .string t391, .int .u8 0, .int .u32 0]) ?_ 2 _ rfl; (with_reducible repeat (first | refine blk_drewN ?_ _ | refine blk_drew ?_ | refine blk_alloc ?_ _)); refine blk_put (cs := #[.int .u32 t390, .string (⟨#[]⟩ : ByteArray), .int .u8 0, .int .u32 0]) ?_ 1 _ rfl; (with_reducible repeat (first | refine blk_drewN ?_ _ | refine blk_drew ?_ | refine blk_alloc ?_ _)); refine blk_put (cs := #[.int .u32 0, .string (⟨#[]⟩ : ByteArray), .int .u8 0, .int .u32 0]) ?_ 0 _ rfl; (with_reducible repeat (first | refine blk_drewN ?_ _ | refine blk_drew ?_ | refine blk_alloc ?_ _)); exact BK395.out) hb); have n2_ := Aside0.mk (below_step (by repeat (first | (with_reducible first | exact HB.out | apply below_alloc | apply pw_below_drewN | apply below_drew1 | refine below_set ?_ GE389.out | refine below_set ?_ GE395.out) | exact HB.out)) hb); clear BK389; clear BK395; clear HB; have BK389 := n0_; have BK395 := n1_; have HB := n2_; clear n0_ n1_ n2_; (try clear hb); (try clear hb2); (try clear hk); (try clear hi)))
              go_ret
              exact ⟨by first | rfl | (simp [errW_none, errW_some] <;> rfl) | (simp [*, errW_none, errW_some] <;> rfl), by repeat (first | (with_reducible first | exact HB.out | apply below_alloc | apply pw_below_drewN | apply below_drew1 | refine below_set ?_ GE389.out | refine below_set ?_ GE395.out) | exact HB.out)⟩
             ·rw [if_neg c38] at H
              have c38b0 : decide (12 < t396) = false := decide_eq_false c38
              clear c38
              have H' := Aside0.mk H
              clear H
              have p388 : 0 ≤ (x52_2 : Int) := of_decide_eq_true (by first | (with_reducible assumption) | assumption)
              have q388 : x52_2 < (l0.length : Int) := of_decide_eq_true (by first | (with_reducible assumption) | assumption)
              obtain ⟨ad388, e388, hx388_0, hx388_1, hx388_2, hx388_3⟩ := at_T26 HR0.out x52_2 p388 q388
              cases e388
              replace hx388_0 := (HB.out.cell (World.block_lt_of_cell? w _ hx388_0)).trans hx388_0
              replace hx388_1 := (HB.out.cell (World.block_lt_of_cell? w _ hx388_1)).trans hx388_1
              replace hx388_2 := (HB.out.cell (World.block_lt_of_cell? w _ hx388_2)).trans hx388_2
              replace hx388_3 := (HB.out.cell (World.block_lt_of_cell? w _ hx388_3)).trans hx388_3
              replace p388 := eq_true p388
              replace q388 := eq_true q388
              go_wp2_with (first | ((with_reducible refine gate_dst (N := 7) rfl ?_); refine box_event ?hg (N := 7) ?hd (cs := #[.int .u32 0, .string (⟨#[]⟩ : ByteArray), .int .u8 0, .int .u32 0]) (t := 26) ?hr ?_; (case hd => rfl); (case hg => rfl); (case hr => first | (go_simp; done) | (go_simp; rfl)); intro gb389 hg w47 hbox hb; have n0_ := Aside0.mk (below_step (by repeat (first | (with_reducible first | exact HB.out | apply below_alloc | apply pw_below_drewN | apply below_drew1) | exact HB.out)) hb); have n1_ := Aside0.mk (hbox); have n2_ := Aside0.mk ((by rw [hg]; exact (below_size (by repeat (first | (with_reducible first | exact HB.out | apply below_alloc | apply pw_below_drewN | apply below_drew1) | exact HB.out))) : w.heap.size ≤ gb389)); have n3_ := Aside0.mk ((by rw [hg]; exact (below_size (by repeat (first | (with_reducible first | exact HB.out | apply below_alloc | apply pw_below_drewN | apply below_drew1) | exact HB.out))) : w.heap.size ≤ gb389)); clear HB; have HB := n0_; have BK389 := n1_; have GW389 := n2_; have GE389 := n3_; clear n0_ n1_ n2_ n3_; clear hb hbox hg; have hcz48_0 : w47.cell? ⟨gb389, 0, none⟩ = some (.int .u32 0) := (blk_cell BK389.out 0).trans rfl; have hcz48_1 : w47.cell? ⟨gb389, 1, none⟩ = some (.string (⟨#[]⟩ : ByteArray)) := (blk_cell BK389.out 1).trans rfl; have hcz48_2 : w47.cell? ⟨gb389, 2, none⟩ = some (.int .u8 0) := (blk_cell BK389.out 2).trans rfl; have hcz48_3 : w47.cell? ⟨gb389, 3, none⟩ = some (.int .u32 0) := (blk_cell BK389.out 3).trans rfl; have hfz48_0 := blk_frozen BK389.out 0; have hfz48_1 := blk_frozen BK389.out 1; have hfz48_2 := blk_frozen BK389.out 2; have hfz48_3 := blk_frozen BK389.out 3) | ((with_reducible refine gate_callee (f := 30) rfl ?_); refine goesL_ (some 63) rfl rfl Tryz.func30 (by kernel_rfl) rfl #[.slice (some ad388) l0.length c0, .int .u32 ((rd_T26 l0 x52_2).f3)] rfl (by (try simp only [List.map_toArray, List.map_cons, List.map_nil]); first | done | rfl | (simp only [List.length_drop, List.length_take]; rfl)) ?_; (with_reducible refine (transposallaw06_get.calls k2 _ _ l0 ((rd_T26 l0 x52_2).f3) t390 t391 t392 t393 true _ ?side1 ?side2 A34.out).mono ?_); (case side1 => exact Kd.C_below HR0.out (by repeat (first | (with_reducible first | exact HB.out | apply below_alloc | apply pw_below_drewN | apply below_drew1 | refine below_set ?_ GE389.out) | exact HB.out))); (case side2 => exact HC0.out); rintro e w49 ⟨rfl, hb⟩; refine ⟨_, rfl, ?_⟩; have n0_ := Aside0.mk (blk_below (g := gb389) (o := .cells #[.int .u32 ((rd_T26 l0 x52_2).f0), .string ((rd_T26 l0 x52_2).f1), .int .u8 ((rd_T26 l0 x52_2).f2), .int .u32 ((rd_T26 l0 x52_2).f3)] 26 (0, 0)) (by (with_reducible repeat (first | refine blk_drewN ?_ _ | refine blk_drew ?_ | refine blk_alloc ?_ _)); refine blk_put (cs := #[.int .u32 ((rd_T26 l0 x52_2).f0), .string ((rd_T26 l0 x52_2).f1), .int .u8 ((rd_T26 l0 x52_2).f2), .int .u32 0]) ?_ 3 _ rfl; (with_reducible repeat (first | refine blk_drewN ?_ _ | refine blk_drew ?_ | refine blk_alloc ?_ _)); refine blk_put (cs := #[.int .u32 ((rd_T26 l0 x52_2).f0), .string ((rd_T26 l0 x52_2).f1), .int .u8 0, .int .u32 0]) ?_ 2 _ rfl; (with_reducible repeat (first | refine blk_drewN ?_ _ | refine blk_drew ?_ | refine blk_alloc ?_ _)); refine blk_put (cs := #[.int .u32 ((rd_T26 l0 x52_2).f0), .string (⟨#[]⟩ : ByteArray), .int .u8 0, .int .u32 0]) ?_ 1 _ rfl; (with_reducible repeat (first | refine blk_drewN ?_ _ | refine blk_drew ?_ | refine blk_alloc ?_ _)); refine blk_put (cs := #[.int .u32 0, .string (⟨#[]⟩ : ByteArray), .int .u8 0, .int .u32 0]) ?_ 0 _ rfl; (with_reducible repeat (first | refine blk_drewN ?_ _ | refine blk_drew ?_ | refine blk_alloc ?_ _)); exact BK389.out) hb); have n1_ := Aside0.mk (below_step (by repeat (first | (with_reducible first | exact HB.out | apply below_alloc | apply pw_below_drewN | apply below_drew1 | refine below_set ?_ GE389.out) | exact HB.out)) hb); clear BK389; clear HB; have BK389 := n0_; have HB := n1_; clear n0_ n1_; (try clear hb); (try clear hb2); (try clear hk); (try clear hi)) | ((with_reducible refine gate_dst (N := 8) rfl ?_); refine box_event ?hg (N := 8) ?hd (cs := #[.int .u32 0, .string (⟨#[]⟩ : ByteArray), .int .u8 0, .int .u32 0]) (t := 26) ?hr ?_; (case hd => rfl); (case hg => rfl); (case hr => first | (go_simp; done) | (go_simp; rfl)); intro gb395 hg w50 hbox hb; have n0_ := Aside0.mk (blk_below (g := gb389) (o := .cells #[.int .u32 ((rd_T26 l0 x52_2).f0), .string ((rd_T26 l0 x52_2).f1), .int .u8 ((rd_T26 l0 x52_2).f2), .int .u32 ((rd_T26 l0 x52_2).f3)] 26 (0, 0)) (by (with_reducible repeat (first | refine blk_drewN ?_ _ | refine blk_drew ?_ | refine blk_alloc ?_ _)); exact BK389.out) hb); have n1_ := Aside0.mk (below_step (by repeat (first | (with_reducible first | exact HB.out | apply below_alloc | apply pw_below_drewN | apply below_drew1 | refine below_set ?_ GE389.out) | exact HB.out)) hb); have n2_ := Aside0.mk (hbox); have n3_ := Aside0.mk ((by rw [hg]; exact (below_size (by repeat (first | (with_reducible first | exact HB.out | apply below_alloc | apply pw_below_drewN | apply below_drew1 | refine below_set ?_ GE389.out) | exact HB.out))) : w.heap.size ≤ gb395)); have n4_ := Aside0.mk ((by rw [hg]; exact (below_size (by repeat (first | (with_reducible first | exact HB.out | apply below_alloc | apply pw_below_drewN | apply below_drew1 | refine below_set ?_ GE389.out) | exact HB.out))) : w.heap.size ≤ gb395)); have n5_ := Aside0.mk ((by rw [hg]; exact Nat.ne_of_lt (blk_lt (g := gb389) (o := .cells #[.int .u32 ((rd_T26 l0 x52_2).f0), .string ((rd_T26 l0 x52_2).f1), .int .u8 ((rd_T26 l0 x52_2).f2), .int .u32 ((rd_T26 l0 x52_2).f3)] 26 (0, 0)) (by (with_reducible repeat (first | refine blk_drewN ?_ _ | refine blk_drew ?_ | refine blk_alloc ?_ _)); exact BK389.out)) : gb389 ≠ gb395)); have n6_ := Aside0.mk ((by rw [hg]; exact Nat.ne_of_gt (blk_lt (g := gb389) (o := .cells #[.int .u32 ((rd_T26 l0 x52_2).f0), .string ((rd_T26 l0 x52_2).f1), .int .u8 ((rd_T26 l0 x52_2).f2), .int .u32 ((rd_T26 l0 x52_2).f3)] 26 (0, 0)) (by (with_reducible repeat (first | refine blk_drewN ?_ _ | refine blk_drew ?_ | refine blk_alloc ?_ _)); exact BK389.out)) : gb395 ≠ gb389)); clear BK389; clear HB; have BK389 := n0_; have HB := n1_; have BK395 := n2_; have GW395 := n3_; have GE395 := n4_; have NB389_395 := n5_; have NB395_389 := n6_; clear n0_ n1_ n2_ n3_ n4_ n5_ n6_; clear hb hbox hg; have hnb51 := NB395_389.out; have hnc51 := NB389_395.out; have hcz52_0 : w50.cell? ⟨gb395, 0, none⟩ = some (.int .u32 0) := (blk_cell BK395.out 0).trans rfl; have hcz52_1 : w50.cell? ⟨gb395, 1, none⟩ = some (.string (⟨#[]⟩ : ByteArray)) := (blk_cell BK395.out 1).trans rfl; have hcz52_2 : w50.cell? ⟨gb395, 2, none⟩ = some (.int .u8 0) := (blk_cell BK395.out 2).trans rfl; have hcz52_3 : w50.cell? ⟨gb395, 3, none⟩ = some (.int .u32 0) := (blk_cell BK395.out 3).trans rfl; have hfz52_0 := blk_frozen BK395.out 0; have hfz52_1 := blk_frozen BK395.out 1; have hfz52_2 := blk_frozen BK395.out 2; have hfz52_3 := blk_frozen BK395.out 3; have hcz53_0 : w50.cell? ⟨gb389, 0, none⟩ = some (.int .u32 ((rd_T26 l0 x52_2).f0)) := (blk_cell BK389.out 0).trans rfl; have hcz53_1 : w50.cell? ⟨gb389, 1, none⟩ = some (.string ((rd_T26 l0 x52_2).f1)) := (blk_cell BK389.out 1).trans rfl; have hcz53_2 : w50.cell? ⟨gb389, 2, none⟩ = some (.int .u8 ((rd_T26 l0 x52_2).f2)) := (blk_cell BK389.out 2).trans rfl; have hcz53_3 : w50.cell? ⟨gb389, 3, none⟩ = some (.int .u32 ((rd_T26 l0 x52_2).f3)) := (blk_cell BK389.out 3).trans rfl; have hfz53_0 := blk_frozen BK389.out 0; have hfz53_1 := blk_frozen BK389.out 1; have hfz53_2 := blk_frozen BK389.out 2; have hfz53_3 := blk_frozen BK389.out 3) | ((with_reducible refine gate_callee (f := 22) rfl ?_); refine goesL_ (some 76) rfl rfl Tryz.func22 (by kernel_rfl) rfl #[.slice (some ad388) l0.length c0, .int .u32 ((rd_T26 l0 x52_2).f0)] rfl (by (try simp only [List.map_toArray, List.map_cons, List.map_nil]); first | done | rfl | (simp only [List.length_drop, List.length_take]; rfl)) ?_; (with_reducible refine (transposallaw06_deep.calls k2 _ _ l0 ((rd_T26 l0 x52_2).f0) t396 _ ?side1 ?side2 A37.out).mono ?_); (case side1 => exact Kd.C_below HR0.out (by repeat (first | (with_reducible first | exact HB.out | apply below_alloc | apply pw_below_drewN | apply below_drew1 | refine below_set ?_ GE389.out | refine below_set ?_ GE395.out) | exact HB.out))); (case side2 => exact HC0.out); rintro e w54 ⟨rfl, hb⟩; refine ⟨_, rfl, ?_⟩; have n0_ := Aside0.mk (blk_below (g := gb389) (o := .cells #[.int .u32 ((rd_T26 l0 x52_2).f0), .string ((rd_T26 l0 x52_2).f1), .int .u8 ((rd_T26 l0 x52_2).f2), .int .u32 ((rd_T26 l0 x52_2).f3)] 26 (0, 0)) (by (with_reducible repeat (first | refine blk_drewN ?_ _ | refine blk_drew ?_ | refine blk_alloc ?_ _)); refine blk_far ?_ NB389_395.out _; (with_reducible repeat (first | refine blk_drewN ?_ _ | refine blk_drew ?_ | refine blk_alloc ?_ _)); refine blk_far ?_ NB389_395.out _; (with_reducible repeat (first | refine blk_drewN ?_ _ | refine blk_drew ?_ | refine blk_alloc ?_ _)); refine blk_far ?_ NB389_395.out _; (with_reducible repeat (first | refine blk_drewN ?_ _ | refine blk_drew ?_ | refine blk_alloc ?_ _)); refine blk_far ?_ NB389_395.out _; (with_reducible repeat (first | refine blk_drewN ?_ _ | refine blk_drew ?_ | refine blk_alloc ?_ _)); exact BK389.out) hb); have n1_ := Aside0.mk (blk_below (g := gb395) (o := .cells #[.int .u32 t390, .string t391, .int .u8 t392, .int .u32 t393] 26 (0, 0)) (by (with_reducible repeat (first | refine blk_drewN ?_ _ | refine blk_drew ?_ | refine blk_alloc ?_ _)); refine blk_put (cs := #[.int .u32 t390, .string t391, .int .u8 t392, .int .u32 0]) ?_ 3 _ rfl; (with_reducible repeat (first | refine blk_drewN ?_ _ | refine blk_drew ?_ | refine blk_alloc ?_ _)); refine blk_put (cs := #[.int .u32 t390, .string t391, .int .u8 0, .int .u32 0]) ?_ 2 _ rfl; (with_reducible repeat (first | refine blk_drewN ?_ _ | refine blk_drew ?_ | refine blk_alloc ?_ _)); refine blk_put (cs := #[.int .u32 t390, .string (⟨#[]⟩ : ByteArray), .int .u8 0, .int .u32 0]) ?_ 1 _ rfl; (with_reducible repeat (first | refine blk_drewN ?_ _ | refine blk_drew ?_ | refine blk_alloc ?_ _)); refine blk_put (cs := #[.int .u32 0, .string (⟨#[]⟩ : ByteArray), .int .u8 0, .int .u32 0]) ?_ 0 _ rfl; (with_reducible repeat (first | refine blk_drewN ?_ _ | refine blk_drew ?_ | refine blk_alloc ?_ _)); exact BK395.out) hb); have n2_ := Aside0.mk (below_step (by repeat (first | (with_reducible first | exact HB.out | apply below_alloc | apply pw_below_drewN | apply below_drew1 | refine below_set ?_ GE389.out | refine below_set ?_ GE395.out) | exact HB.out)) hb); clear BK389; clear BK395; clear HB; have BK389 := n0_; have BK395 := n1_; have HB := n2_; clear n0_ n1_ n2_; (try clear hb); (try clear hb2); (try clear hk); (try clear hi)))
              go_roundg k2
              case measure => have := HK1.out; have := HK2.out; omega
              case rel => exact ⟨(wrap64 (x52_2 + 1)), (by first | rfl | (simp; done) | (simp [*]; done)), H', ⟨by have := HK1.out; have := HK2.out; omega⟩, ⟨by repeat (first | (with_reducible first | exact HB.out | apply below_alloc | apply pw_below_drewN | apply below_drew1 | refine below_set ?_ GE389.out | refine below_set ?_ GE395.out) | exact HB.out)⟩⟩
            ·rw [if_neg c36] at H
             have c36b0 : (t392 == ((rd_T26 l0 x52_2).f2)) = false := beq_eq_false_iff_ne.mpr c36
             have c36b1 : (t392 != ((rd_T26 l0 x52_2).f2)) = true := bne_iff_ne.mpr c36
             obtain rfl := Option.some.inj H
             have p388 : 0 ≤ (x52_2 : Int) := of_decide_eq_true (by first | (with_reducible assumption) | assumption)
             have q388 : x52_2 < (l0.length : Int) := of_decide_eq_true (by first | (with_reducible assumption) | assumption)
             obtain ⟨ad388, e388, hx388_0, hx388_1, hx388_2, hx388_3⟩ := at_T26 HR0.out x52_2 p388 q388
             cases e388
             replace hx388_0 := (HB.out.cell (World.block_lt_of_cell? w _ hx388_0)).trans hx388_0
             replace hx388_1 := (HB.out.cell (World.block_lt_of_cell? w _ hx388_1)).trans hx388_1
             replace hx388_2 := (HB.out.cell (World.block_lt_of_cell? w _ hx388_2)).trans hx388_2
             replace hx388_3 := (HB.out.cell (World.block_lt_of_cell? w _ hx388_3)).trans hx388_3
             replace p388 := eq_true p388
             replace q388 := eq_true q388
             go_wp2_with (first | ((with_reducible refine gate_dst (N := 7) rfl ?_); refine box_event ?hg (N := 7) ?hd (cs := #[.int .u32 0, .string (⟨#[]⟩ : ByteArray), .int .u8 0, .int .u32 0]) (t := 26) ?hr ?_; (case hd => rfl); (case hg => rfl); (case hr => first | (go_simp; done) | (go_simp; rfl)); intro gb389 hg w55 hbox hb; have n0_ := Aside0.mk (below_step (by repeat (first | (with_reducible first | exact HB.out | apply below_alloc | apply pw_below_drewN | apply below_drew1) | exact HB.out)) hb); have n1_ := Aside0.mk (hbox); have n2_ := Aside0.mk ((by rw [hg]; exact (below_size (by repeat (first | (with_reducible first | exact HB.out | apply below_alloc | apply pw_below_drewN | apply below_drew1) | exact HB.out))) : w.heap.size ≤ gb389)); have n3_ := Aside0.mk ((by rw [hg]; exact (below_size (by repeat (first | (with_reducible first | exact HB.out | apply below_alloc | apply pw_below_drewN | apply below_drew1) | exact HB.out))) : w.heap.size ≤ gb389)); clear HB; have HB := n0_; have BK389 := n1_; have GW389 := n2_; have GE389 := n3_; clear n0_ n1_ n2_ n3_; clear hb hbox hg; have hcz56_0 : w55.cell? ⟨gb389, 0, none⟩ = some (.int .u32 0) := (blk_cell BK389.out 0).trans rfl; have hcz56_1 : w55.cell? ⟨gb389, 1, none⟩ = some (.string (⟨#[]⟩ : ByteArray)) := (blk_cell BK389.out 1).trans rfl; have hcz56_2 : w55.cell? ⟨gb389, 2, none⟩ = some (.int .u8 0) := (blk_cell BK389.out 2).trans rfl; have hcz56_3 : w55.cell? ⟨gb389, 3, none⟩ = some (.int .u32 0) := (blk_cell BK389.out 3).trans rfl; have hfz56_0 := blk_frozen BK389.out 0; have hfz56_1 := blk_frozen BK389.out 1; have hfz56_2 := blk_frozen BK389.out 2; have hfz56_3 := blk_frozen BK389.out 3) | ((with_reducible refine gate_callee (f := 30) rfl ?_); refine goesL_ (some 63) rfl rfl Tryz.func30 (by kernel_rfl) rfl #[.slice (some ad388) l0.length c0, .int .u32 ((rd_T26 l0 x52_2).f3)] rfl (by (try simp only [List.map_toArray, List.map_cons, List.map_nil]); first | done | rfl | (simp only [List.length_drop, List.length_take]; rfl)) ?_; (with_reducible refine (transposallaw06_get.calls k2 _ _ l0 ((rd_T26 l0 x52_2).f3) t390 t391 t392 t393 true _ ?side1 ?side2 A34.out).mono ?_); (case side1 => exact Kd.C_below HR0.out (by repeat (first | (with_reducible first | exact HB.out | apply below_alloc | apply pw_below_drewN | apply below_drew1 | refine below_set ?_ GE389.out) | exact HB.out))); (case side2 => exact HC0.out); rintro e w57 ⟨rfl, hb⟩; refine ⟨_, rfl, ?_⟩; have n0_ := Aside0.mk (blk_below (g := gb389) (o := .cells #[.int .u32 ((rd_T26 l0 x52_2).f0), .string ((rd_T26 l0 x52_2).f1), .int .u8 ((rd_T26 l0 x52_2).f2), .int .u32 ((rd_T26 l0 x52_2).f3)] 26 (0, 0)) (by (with_reducible repeat (first | refine blk_drewN ?_ _ | refine blk_drew ?_ | refine blk_alloc ?_ _)); refine blk_put (cs := #[.int .u32 ((rd_T26 l0 x52_2).f0), .string ((rd_T26 l0 x52_2).f1), .int .u8 ((rd_T26 l0 x52_2).f2), .int .u32 0]) ?_ 3 _ rfl; (with_reducible repeat (first | refine blk_drewN ?_ _ | refine blk_drew ?_ | refine blk_alloc ?_ _)); refine blk_put (cs := #[.int .u32 ((rd_T26 l0 x52_2).f0), .string ((rd_T26 l0 x52_2).f1), .int .u8 0, .int .u32 0]) ?_ 2 _ rfl; (with_reducible repeat (first | refine blk_drewN ?_ _ | refine blk_drew ?_ | refine blk_alloc ?_ _)); refine blk_put (cs := #[.int .u32 ((rd_T26 l0 x52_2).f0), .string (⟨#[]⟩ : ByteArray), .int .u8 0, .int .u32 0]) ?_ 1 _ rfl; (with_reducible repeat (first | refine blk_drewN ?_ _ | refine blk_drew ?_ | refine blk_alloc ?_ _)); refine blk_put (cs := #[.int .u32 0, .string (⟨#[]⟩ : ByteArray), .int .u8 0, .int .u32 0]) ?_ 0 _ rfl; (with_reducible repeat (first | refine blk_drewN ?_ _ | refine blk_drew ?_ | refine blk_alloc ?_ _)); exact BK389.out) hb); have n1_ := Aside0.mk (below_step (by repeat (first | (with_reducible first | exact HB.out | apply below_alloc | apply pw_below_drewN | apply below_drew1 | refine below_set ?_ GE389.out) | exact HB.out)) hb); clear BK389; clear HB; have BK389 := n0_; have HB := n1_; clear n0_ n1_; (try clear hb); (try clear hb2); (try clear hk); (try clear hi)) | ((with_reducible refine gate_dst (N := 8) rfl ?_); refine box_event ?hg (N := 8) ?hd (cs := #[.int .u32 0, .string (⟨#[]⟩ : ByteArray), .int .u8 0, .int .u32 0]) (t := 26) ?hr ?_; (case hd => rfl); (case hg => rfl); (case hr => first | (go_simp; done) | (go_simp; rfl)); intro gb395 hg w58 hbox hb; have n0_ := Aside0.mk (blk_below (g := gb389) (o := .cells #[.int .u32 ((rd_T26 l0 x52_2).f0), .string ((rd_T26 l0 x52_2).f1), .int .u8 ((rd_T26 l0 x52_2).f2), .int .u32 ((rd_T26 l0 x52_2).f3)] 26 (0, 0)) (by (with_reducible repeat (first | refine blk_drewN ?_ _ | refine blk_drew ?_ | refine blk_alloc ?_ _)); exact BK389.out) hb); have n1_ := Aside0.mk (below_step (by repeat (first | (with_reducible first | exact HB.out | apply below_alloc | apply pw_below_drewN | apply below_drew1 | refine below_set ?_ GE389.out) | exact HB.out)) hb); have n2_ := Aside0.mk (hbox); have n3_ := Aside0.mk ((by rw [hg]; exact (below_size (by repeat (first | (with_reducible first | exact HB.out | apply below_alloc | apply pw_below_drewN | apply below_drew1 | refine below_set ?_ GE389.out) | exact HB.out))) : w.heap.size ≤ gb395)); have n4_ := Aside0.mk ((by rw [hg]; exact (below_size (by repeat (first | (with_reducible first | exact HB.out | apply below_alloc | apply pw_below_drewN | apply below_drew1 | refine below_set ?_ GE389.out) | exact HB.out))) : w.heap.size ≤ gb395)); have n5_ := Aside0.mk ((by rw [hg]; exact Nat.ne_of_lt (blk_lt (g := gb389) (o := .cells #[.int .u32 ((rd_T26 l0 x52_2).f0), .string ((rd_T26 l0 x52_2).f1), .int .u8 ((rd_T26 l0 x52_2).f2), .int .u32 ((rd_T26 l0 x52_2).f3)] 26 (0, 0)) (by (with_reducible repeat (first | refine blk_drewN ?_ _ | refine blk_drew ?_ | refine blk_alloc ?_ _)); exact BK389.out)) : gb389 ≠ gb395)); have n6_ := Aside0.mk ((by rw [hg]; exact Nat.ne_of_gt (blk_lt (g := gb389) (o := .cells #[.int .u32 ((rd_T26 l0 x52_2).f0), .string ((rd_T26 l0 x52_2).f1), .int .u8 ((rd_T26 l0 x52_2).f2), .int .u32 ((rd_T26 l0 x52_2).f3)] 26 (0, 0)) (by (with_reducible repeat (first | refine blk_drewN ?_ _ | refine blk_drew ?_ | refine blk_alloc ?_ _)); exact BK389.out)) : gb395 ≠ gb389)); clear BK389; clear HB; have BK389 := n0_; have HB := n1_; have BK395 := n2_; have GW395 := n3_; have GE395 := n4_; have NB389_395 := n5_; have NB395_389 := n6_; clear n0_ n1_ n2_ n3_ n4_ n5_ n6_; clear hb hbox hg; have hnb59 := NB395_389.out; have hnc59 := NB389_395.out; have hcz60_0 : w58.cell? ⟨gb395, 0, none⟩ = some (.int .u32 0) := (blk_cell BK395.out 0).trans rfl; have hcz60_1 : w58.cell? ⟨gb395, 1, none⟩ = some (.string (⟨#[]⟩ : ByteArray)) := (blk_cell BK395.out 1).trans rfl; have hcz60_2 : w58.cell? ⟨gb395, 2, none⟩ = some (.int .u8 0) := (blk_cell BK395.out 2).trans rfl; have hcz60_3 : w58.cell? ⟨gb395, 3, none⟩ = some (.int .u32 0) := (blk_cell BK395.out 3).trans rfl; have hfz60_0 := blk_frozen BK395.out 0; have hfz60_1 := blk_frozen BK395.out 1; have hfz60_2 := blk_frozen BK395.out 2; have hfz60_3 := blk_frozen BK395.out 3; have hcz61_0 : w58.cell? ⟨gb389, 0, none⟩ = some (.int .u32 ((rd_T26 l0 x52_2).f0)) := (blk_cell BK389.out 0).trans rfl; have hcz61_1 : w58.cell? ⟨gb389, 1, none⟩ = some (.string ((rd_T26 l0 x52_2).f1)) := (blk_cell BK389.out 1).trans rfl; have hcz61_2 : w58.cell? ⟨gb389, 2, none⟩ = some (.int .u8 ((rd_T26 l0 x52_2).f2)) := (blk_cell BK389.out 2).trans rfl; have hcz61_3 : w58.cell? ⟨gb389, 3, none⟩ = some (.int .u32 ((rd_T26 l0 x52_2).f3)) := (blk_cell BK389.out 3).trans rfl; have hfz61_0 := blk_frozen BK389.out 0; have hfz61_1 := blk_frozen BK389.out 1; have hfz61_2 := blk_frozen BK389.out 2; have hfz61_3 := blk_frozen BK389.out 3))
             go_ret
             exact ⟨by first | rfl | (simp [errW_none, errW_some] <;> rfl) | (simp [*, errW_none, errW_some] <;> rfl), by repeat (first | (with_reducible first | exact HB.out | apply below_alloc | apply pw_below_drewN | apply below_drew1 | refine below_set ?_ GE389.out | refine below_set ?_ GE395.out) | exact HB.out)⟩
           ·replace c35 := Bool.eq_false_iff.mpr c35
            subst c35
            have H1 : (some 8) = some r := by rw [if_neg (show ¬ (false = true) by decide)] at H; exact H
            clear H
            have H := H1
            clear H1
            obtain rfl := Option.some.inj H
            have p388 : 0 ≤ (x52_2 : Int) := of_decide_eq_true (by first | (with_reducible assumption) | assumption)
            have q388 : x52_2 < (l0.length : Int) := of_decide_eq_true (by first | (with_reducible assumption) | assumption)
            obtain ⟨ad388, e388, hx388_0, hx388_1, hx388_2, hx388_3⟩ := at_T26 HR0.out x52_2 p388 q388
            cases e388
            replace hx388_0 := (HB.out.cell (World.block_lt_of_cell? w _ hx388_0)).trans hx388_0
            replace hx388_1 := (HB.out.cell (World.block_lt_of_cell? w _ hx388_1)).trans hx388_1
            replace hx388_2 := (HB.out.cell (World.block_lt_of_cell? w _ hx388_2)).trans hx388_2
            replace hx388_3 := (HB.out.cell (World.block_lt_of_cell? w _ hx388_3)).trans hx388_3
            replace p388 := eq_true p388
            replace q388 := eq_true q388
            go_wp2_with (first | ((with_reducible refine gate_dst (N := 7) rfl ?_); refine box_event ?hg (N := 7) ?hd (cs := #[.int .u32 0, .string (⟨#[]⟩ : ByteArray), .int .u8 0, .int .u32 0]) (t := 26) ?hr ?_; (case hd => rfl); (case hg => rfl); (case hr => first | (go_simp; done) | (go_simp; rfl)); intro gb389 hg w62 hbox hb; have n0_ := Aside0.mk (below_step (by repeat (first | (with_reducible first | exact HB.out | apply below_alloc | apply pw_below_drewN | apply below_drew1) | exact HB.out)) hb); have n1_ := Aside0.mk (hbox); have n2_ := Aside0.mk ((by rw [hg]; exact (below_size (by repeat (first | (with_reducible first | exact HB.out | apply below_alloc | apply pw_below_drewN | apply below_drew1) | exact HB.out))) : w.heap.size ≤ gb389)); have n3_ := Aside0.mk ((by rw [hg]; exact (below_size (by repeat (first | (with_reducible first | exact HB.out | apply below_alloc | apply pw_below_drewN | apply below_drew1) | exact HB.out))) : w.heap.size ≤ gb389)); clear HB; have HB := n0_; have BK389 := n1_; have GW389 := n2_; have GE389 := n3_; clear n0_ n1_ n2_ n3_; clear hb hbox hg; have hcz63_0 : w62.cell? ⟨gb389, 0, none⟩ = some (.int .u32 0) := (blk_cell BK389.out 0).trans rfl; have hcz63_1 : w62.cell? ⟨gb389, 1, none⟩ = some (.string (⟨#[]⟩ : ByteArray)) := (blk_cell BK389.out 1).trans rfl; have hcz63_2 : w62.cell? ⟨gb389, 2, none⟩ = some (.int .u8 0) := (blk_cell BK389.out 2).trans rfl; have hcz63_3 : w62.cell? ⟨gb389, 3, none⟩ = some (.int .u32 0) := (blk_cell BK389.out 3).trans rfl; have hfz63_0 := blk_frozen BK389.out 0; have hfz63_1 := blk_frozen BK389.out 1; have hfz63_2 := blk_frozen BK389.out 2; have hfz63_3 := blk_frozen BK389.out 3) | ((with_reducible refine gate_callee (f := 30) rfl ?_); refine goesL_ (some 63) rfl rfl Tryz.func30 (by kernel_rfl) rfl #[.slice (some ad388) l0.length c0, .int .u32 ((rd_T26 l0 x52_2).f3)] rfl (by (try simp only [List.map_toArray, List.map_cons, List.map_nil]); first | done | rfl | (simp only [List.length_drop, List.length_take]; rfl)) ?_; (with_reducible refine (transposallaw06_get.calls k2 _ _ l0 ((rd_T26 l0 x52_2).f3) t390 t391 t392 t393 false _ ?side1 ?side2 A34.out).mono ?_); (case side1 => exact Kd.C_below HR0.out (by repeat (first | (with_reducible first | exact HB.out | apply below_alloc | apply pw_below_drewN | apply below_drew1 | refine below_set ?_ GE389.out) | exact HB.out))); (case side2 => exact HC0.out); rintro e w64 ⟨rfl, hb⟩; refine ⟨_, rfl, ?_⟩; have n0_ := Aside0.mk (blk_below (g := gb389) (o := .cells #[.int .u32 ((rd_T26 l0 x52_2).f0), .string ((rd_T26 l0 x52_2).f1), .int .u8 ((rd_T26 l0 x52_2).f2), .int .u32 ((rd_T26 l0 x52_2).f3)] 26 (0, 0)) (by (with_reducible repeat (first | refine blk_drewN ?_ _ | refine blk_drew ?_ | refine blk_alloc ?_ _)); refine blk_put (cs := #[.int .u32 ((rd_T26 l0 x52_2).f0), .string ((rd_T26 l0 x52_2).f1), .int .u8 ((rd_T26 l0 x52_2).f2), .int .u32 0]) ?_ 3 _ rfl; (with_reducible repeat (first | refine blk_drewN ?_ _ | refine blk_drew ?_ | refine blk_alloc ?_ _)); refine blk_put (cs := #[.int .u32 ((rd_T26 l0 x52_2).f0), .string ((rd_T26 l0 x52_2).f1), .int .u8 0, .int .u32 0]) ?_ 2 _ rfl; (with_reducible repeat (first | refine blk_drewN ?_ _ | refine blk_drew ?_ | refine blk_alloc ?_ _)); refine blk_put (cs := #[.int .u32 ((rd_T26 l0 x52_2).f0), .string (⟨#[]⟩ : ByteArray), .int .u8 0, .int .u32 0]) ?_ 1 _ rfl; (with_reducible repeat (first | refine blk_drewN ?_ _ | refine blk_drew ?_ | refine blk_alloc ?_ _)); refine blk_put (cs := #[.int .u32 0, .string (⟨#[]⟩ : ByteArray), .int .u8 0, .int .u32 0]) ?_ 0 _ rfl; (with_reducible repeat (first | refine blk_drewN ?_ _ | refine blk_drew ?_ | refine blk_alloc ?_ _)); exact BK389.out) hb); have n1_ := Aside0.mk (below_step (by repeat (first | (with_reducible first | exact HB.out | apply below_alloc | apply pw_below_drewN | apply below_drew1 | refine below_set ?_ GE389.out) | exact HB.out)) hb); clear BK389; clear HB; have BK389 := n0_; have HB := n1_; clear n0_ n1_; (try clear hb); (try clear hb2); (try clear hk); (try clear hi)) | ((with_reducible refine gate_dst (N := 8) rfl ?_); refine box_event ?hg (N := 8) ?hd (cs := #[.int .u32 0, .string (⟨#[]⟩ : ByteArray), .int .u8 0, .int .u32 0]) (t := 26) ?hr ?_; (case hd => rfl); (case hg => rfl); (case hr => first | (go_simp; done) | (go_simp; rfl)); intro gb395 hg w65 hbox hb; have n0_ := Aside0.mk (blk_below (g := gb389) (o := .cells #[.int .u32 ((rd_T26 l0 x52_2).f0), .string ((rd_T26 l0 x52_2).f1), .int .u8 ((rd_T26 l0 x52_2).f2), .int .u32 ((rd_T26 l0 x52_2).f3)] 26 (0, 0)) (by (with_reducible repeat (first | refine blk_drewN ?_ _ | refine blk_drew ?_ | refine blk_alloc ?_ _)); exact BK389.out) hb); have n1_ := Aside0.mk (below_step (by repeat (first | (with_reducible first | exact HB.out | apply below_alloc | apply pw_below_drewN | apply below_drew1 | refine below_set ?_ GE389.out) | exact HB.out)) hb); have n2_ := Aside0.mk (hbox); have n3_ := Aside0.mk ((by rw [hg]; exact (below_size (by repeat (first | (with_reducible first | exact HB.out | apply below_alloc | apply pw_below_drewN | apply below_drew1 | refine below_set ?_ GE389.out) | exact HB.out))) : w.heap.size ≤ gb395)); have n4_ := Aside0.mk ((by rw [hg]; exact (below_size (by repeat (first | (with_reducible first | exact HB.out | apply below_alloc | apply pw_below_drewN | apply below_drew1 | refine below_set ?_ GE389.out) | exact HB.out))) : w.heap.size ≤ gb395)); have n5_ := Aside0.mk ((by rw [hg]; exact Nat.ne_of_lt (blk_lt (g := gb389) (o := .cells #[.int .u32 ((rd_T26 l0 x52_2).f0), .string ((rd_T26 l0 x52_2).f1), .int .u8 ((rd_T26 l0 x52_2).f2), .int .u32 ((rd_T26 l0 x52_2).f3)] 26 (0, 0)) (by (with_reducible repeat (first | refine blk_drewN ?_ _ | refine blk_drew ?_ | refine blk_alloc ?_ _)); exact BK389.out)) : gb389 ≠ gb395)); have n6_ := Aside0.mk ((by rw [hg]; exact Nat.ne_of_gt (blk_lt (g := gb389) (o := .cells #[.int .u32 ((rd_T26 l0 x52_2).f0), .string ((rd_T26 l0 x52_2).f1), .int .u8 ((rd_T26 l0 x52_2).f2), .int .u32 ((rd_T26 l0 x52_2).f3)] 26 (0, 0)) (by (with_reducible repeat (first | refine blk_drewN ?_ _ | refine blk_drew ?_ | refine blk_alloc ?_ _)); exact BK389.out)) : gb395 ≠ gb389)); clear BK389; clear HB; have BK389 := n0_; have HB := n1_; have BK395 := n2_; have GW395 := n3_; have GE395 := n4_; have NB389_395 := n5_; have NB395_389 := n6_; clear n0_ n1_ n2_ n3_ n4_ n5_ n6_; clear hb hbox hg; have hnb66 := NB395_389.out; have hnc66 := NB389_395.out; have hcz67_0 : w65.cell? ⟨gb395, 0, none⟩ = some (.int .u32 0) := (blk_cell BK395.out 0).trans rfl; have hcz67_1 : w65.cell? ⟨gb395, 1, none⟩ = some (.string (⟨#[]⟩ : ByteArray)) := (blk_cell BK395.out 1).trans rfl; have hcz67_2 : w65.cell? ⟨gb395, 2, none⟩ = some (.int .u8 0) := (blk_cell BK395.out 2).trans rfl; have hcz67_3 : w65.cell? ⟨gb395, 3, none⟩ = some (.int .u32 0) := (blk_cell BK395.out 3).trans rfl; have hfz67_0 := blk_frozen BK395.out 0; have hfz67_1 := blk_frozen BK395.out 1; have hfz67_2 := blk_frozen BK395.out 2; have hfz67_3 := blk_frozen BK395.out 3))
            go_ret
            exact ⟨by first | rfl | (simp [errW_none, errW_some] <;> rfl) | (simp [*, errW_none, errW_some] <;> rfl), by repeat (first | (with_reducible first | exact HB.out | apply below_alloc | apply pw_below_drewN | apply below_drew1 | refine below_set ?_ GE389.out | refine below_set ?_ GE395.out) | exact HB.out)⟩
         ·rw [if_neg c30] at H
          exact absurd H (by simp)
        ·rw [if_neg c29] at H
         exact absurd H (by simp)
       ·rw [if_neg c28] at H
        have c28b0 : decide (x52_2 < (l0.length : Int)) = false := decide_eq_false c28
        clear c28
        obtain rfl := Option.some.inj H
        go_wp2
        go_ret
        exact ⟨by first | rfl | (simp [errW_none, errW_some] <;> rfl) | (simp [*, errW_none, errW_some] <;> rfl), by repeat (first | (with_reducible first | exact HB.out | apply below_alloc | apply pw_below_drewN | apply below_drew1) | exact HB.out)⟩

end Go.Proofs.YtckggmblafafjaaGreatDoor.XA
