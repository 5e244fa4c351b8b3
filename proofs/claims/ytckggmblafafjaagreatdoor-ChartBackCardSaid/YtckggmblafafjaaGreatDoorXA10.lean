-- Written by a program of this session's (wip/xp) out of the translation; given functions by hand.
import Derived.Test.YtckggmblafafjaaGreatDoorXA0
import Derived.Test.YtckggmblafafjaaGreatDoorXA1
import Derived.Test.YtckggmblafafjaaGreatDoorXA3
namespace Go.Proofs.YtckggmblafafjaaGreatDoor.XA
open Go.RowKit Go.Proofs.YtckggmblafafjaaGreatDoorW.PrintWords Go.Proofs.YtckggmblafafjaaGreatDoorW.PrintLast Go.Proofs.YtckggmblafafjaaGreatDoorW.PrintMore
attribute [local go_sem] max2_int min2_int max_two min_two max_three min_three max_four min_four   -- for this text's walks alone
set_option linter.unusedVariables false
set_option linter.unusedSimpArgs false

attribute [local go_sem high] eqA26
/-! ### chart_Account_9: function 9 -/
def chart_Account_9.l0 : Nat → List (S26) → List (S26) → Int → Int → Option (Bool)
 | 0, _, _, _, _ => none
 | k + 1, x0, x1, x12, x13 => if x13 < x12 then (if 0 ≤ x13 then (if x13 < (x0.length : Int) then (if x13 < (x1.length : Int) then (if (!(((rd_T26 x0 x13).f0) == ((rd_T26 x1 x13).f0)) || (!((((rd_T26 x0 x13).f1).toList) == (((rd_T26 x1 x13).f1).toList)) || (!(((rd_T26 x0 x13).f2) == ((rd_T26 x1 x13).f2)) || (!(((rd_T26 x0 x13).f3) == ((rd_T26 x1 x13).f3)))))) = true then (some false) else (chart_Account_9.l0 k x0 x1 x12 (wrap64 (x13 + 1)))) else (none)) else (none)) else (none)) else (some true)
def chart_Account_9.f (k : Nat) (l0 : List (S26)) (l1 : List (S26)) : Option (Bool) := if (l0.length : Int) = (l1.length : Int) then (chart_Account_9.l0 k l0 l1 (l0.length : Int) 0) else (some false)
theorem chart_Account_9.mono_l : ∀ k, (∀ y0 y1 y2 y3, LeO (chart_Account_9.l0 k y0 y1 y2 y3) (chart_Account_9.l0 (k + 1) y0 y1 y2 y3))
 | 0 => fun _ _ _ _ r h => by simp [chart_Account_9.l0] at h
 | k + 1 => by
  have ih0 := chart_Account_9.mono_l k
  ·intro y0 y1 y2 y3
   unfold chart_Account_9.l0
   repeat' first
   | (with_reducible exact ih0 _ _ _ _)
   | (with_reducible exact LeO.refl _)
   | (with_reducible exact LeO.none _)
   | (with_reducible refine LeO.ite ?_ ?_)
   | (with_reducible refine LeO.bind ?_ (fun _ => ?_))
   | exact ih0 _ _ _ _
   | exact LeO.none _
   | refine LeO.ite ?_ ?_
   | refine LeO.bind ?_ (fun _ => ?_)
theorem chart_Account_9.mono : ∀ a0 a1 k, LeO (chart_Account_9.f k a0 a1) (chart_Account_9.f (k + 1) a0 a1) := by
 intro a0 a1 k
 have ih0 := chart_Account_9.mono_l k
 unfold chart_Account_9.f
 repeat' first
   | (with_reducible exact ih0 _ _ _ _)
   | (with_reducible exact LeO.refl _)
   | (with_reducible exact LeO.none _)
   | (with_reducible refine LeO.ite ?_ ?_)
   | (with_reducible refine LeO.bind ?_ (fun _ => ?_))
   | exact ih0 _ _ _ _
   | exact LeO.none _
   | refine LeO.ite ?_ ?_
   | refine LeO.bind ?_ (fun _ => ?_)
set_option maxHeartbeats 8000000 in
set_option maxRecDepth 100000 in
theorem chart_Account_9.calls (k : Nat) (A0 : Option Addr) (c0 : Nat) (l0 : List (S26)) (A1 : Option Addr) (c1 : Nat) (l1 : List (S26)) (r : Bool) (w : World) (hr0 : Kd.C k26 w A0 l0.length l0) (hc0 : l0.length ≤ c0) (hr1 : Kd.C k26 w A1 l1.length l1) (hc1 : l1.length ≤ c1) (h : chart_Account_9.f k l0 l1 = some r) :
  Calls Tryz.prog 9 #[.slice A0 l0.length c0, .slice A1 l1.length c1] w fun e w' => e = .returned (.bool r) ∧ Drawn0 w w' := by
 have hu26 := Tryz.underlying26
 have HR0 := Aside0.mk hr0
 have HC0 := Aside0.mk hc0
 clear hr0 hc0
 have HR1 := Aside0.mk hr1
 have HC1 := Aside0.mk hc1
 clear hr1 hc1
 have H : (if (l0.length : Int) = (l1.length : Int) then (chart_Account_9.l0 k l0 l1 (l0.length : Int) 0) else (some false)) = some r := h
 clear h
 by_cases c3 : (l0.length : Int) = (l1.length : Int)
 ·rw [if_pos c3] at H
  have c3b0 : ((l0.length : Int) == (l1.length : Int)) = true := beq_iff_eq.mpr c3
  have c3b1 : ((l0.length : Int) != (l1.length : Int)) = false := bne_eq_false_iff_eq.mpr c3
  have c3b2 : (l0.length == l1.length) = true := by first | simpa using c3 | (simp at c3 ⊢; omega)
  clear c3
  have H' := Aside0.mk H
  clear H
  go_enter Tryz.func9, Tryz.ntmps9
  go_wp2
  repeat (go_quiet (fail); try go_wp2)
  go_loopg [13] k (fun kq v13 w' => ∃ (x13_1 : Int), v13 = .int .i64 x13_1 ∧ Aside0 (chart_Account_9.l0 kq l0 l1 (l0.length : Int) x13_1 = some r) ∧ Aside0 (kq ≤ k) ∧ Drawn0 w w')
  case atStart => exact ⟨(0), (by first | rfl | (simp; done) | (simp [*]; done)), H', ⟨Nat.le_refl _⟩, by repeat (first | exact Drawn0.refl _ | apply Drawn0.step)⟩
  case round =>
   clear H'
   try clear c1
   try clear p2
   try clear c3
   try clear c3b0
   try clear c3b1
   try clear c3b2
   obtain ⟨x13_1, rfl, HA, HK1, ⟨m1, rfl⟩⟩ := hrel
   cases gk with
   | zero => exact absurd HA.out (by simp [chart_Account_9.l0])
   | succ k1 =>
    have H := HA.out
    clear HA
    simp only [chart_Account_9.l0] at H
    by_cases c4 : x13_1 < (l0.length : Int)
    ·rw [if_pos c4] at H
     have c4b0 : decide (x13_1 < (l0.length : Int)) = true := decide_eq_true c4
     clear c4
     by_cases c5 : 0 ≤ x13_1
     ·rw [if_pos c5] at H
      have c5b0 : decide (0 ≤ x13_1) = true := decide_eq_true c5
      clear c5
      by_cases c6 : x13_1 < (l0.length : Int)
      ·rw [if_pos c6] at H
       have c6b0 : decide (x13_1 < (l0.length : Int)) = true := decide_eq_true c6
       clear c6
       by_cases c7 : x13_1 < (l1.length : Int)
       ·rw [if_pos c7] at H
        have c7b0 : decide (x13_1 < (l1.length : Int)) = true := decide_eq_true c7
        clear c7
        by_cases c8 : (!(((rd_T26 l0 x13_1).f0) == ((rd_T26 l1 x13_1).f0)) || (!((((rd_T26 l0 x13_1).f1).toList) == (((rd_T26 l1 x13_1).f1).toList)) || (!(((rd_T26 l0 x13_1).f2) == ((rd_T26 l1 x13_1).f2)) || (!(((rd_T26 l0 x13_1).f3) == ((rd_T26 l1 x13_1).f3)))))) = true
        ·rw [if_pos c8] at H
         have c8b0 : (!(((rd_T26 l0 x13_1).f0) == ((rd_T26 l1 x13_1).f0)) || (!((((rd_T26 l0 x13_1).f1).toList) == (((rd_T26 l1 x13_1).f1).toList)) || (!(((rd_T26 l0 x13_1).f2) == ((rd_T26 l1 x13_1).f2)) || (!(((rd_T26 l0 x13_1).f3) == ((rd_T26 l1 x13_1).f3)))))) = true := c8
         clear c8
         obtain rfl := Option.some.inj H
         have p275 : 0 ≤ (x13_1 : Int) := of_decide_eq_true (by first | (with_reducible assumption) | assumption)
         have q275 : x13_1 < (l0.length : Int) := of_decide_eq_true (by first | (with_reducible assumption) | assumption)
         obtain ⟨ad275, e275, hx275_0, hx275_1, hx275_2, hx275_3⟩ := at_T26 HR0.out x13_1 p275 q275
         cases e275
         replace p275 := eq_true p275
         replace q275 := eq_true q275
         have p276 : 0 ≤ (x13_1 : Int) := of_decide_eq_true (by first | (with_reducible assumption) | assumption)
         have q276 : x13_1 < (l1.length : Int) := of_decide_eq_true (by first | (with_reducible assumption) | assumption)
         obtain ⟨ad276, e276, hx276_0, hx276_1, hx276_2, hx276_3⟩ := at_T26 HR1.out x13_1 p276 q276
         cases e276
         replace p276 := eq_true p276
         replace q276 := eq_true q276
         go_wp2
         repeat (go_quiet (fail); try go_wp2)
         go_ret
         exact ⟨by first | rfl | (simp; done) | (simp [*]; done), by repeat (first | exact Drawn0.refl _ | apply Drawn0.step)⟩
        ·rw [if_neg c8] at H
         have c8b0 : (!(((rd_T26 l0 x13_1).f0) == ((rd_T26 l1 x13_1).f0)) || (!((((rd_T26 l0 x13_1).f1).toList) == (((rd_T26 l1 x13_1).f1).toList)) || (!(((rd_T26 l0 x13_1).f2) == ((rd_T26 l1 x13_1).f2)) || (!(((rd_T26 l0 x13_1).f3) == ((rd_T26 l1 x13_1).f3)))))) = false := by simpa using c8
         clear c8
         have H' := Aside0.mk H
         clear H
         have p275 : 0 ≤ (x13_1 : Int) := of_decide_eq_true (by first | (with_reducible assumption) | assumption)
         have q275 : x13_1 < (l0.length : Int) := of_decide_eq_true (by first | (with_reducible assumption) | assumption)
         obtain ⟨ad275, e275, hx275_0, hx275_1, hx275_2, hx275_3⟩ := at_T26 HR0.out x13_1 p275 q275
         cases e275
         replace p275 := eq_true p275
         replace q275 := eq_true q275
         have p276 : 0 ≤ (x13_1 : Int) := of_decide_eq_true (by first | (with_reducible assumption) | assumption)
         have q276 : x13_1 < (l1.length : Int) := of_decide_eq_true (by first | (with_reducible assumption) | assumption)
         obtain ⟨ad276, e276, hx276_0, hx276_1, hx276_2, hx276_3⟩ := at_T26 HR1.out x13_1 p276 q276
         cases e276
         replace p276 := eq_true p276
         replace q276 := eq_true q276
         go_wp2
         repeat (go_quiet (fail); try go_wp2)
         go_roundg k1
         case measure => have := HK1.out; omega
         case rel => exact ⟨(wrap64 (x13_1 + 1)), (by first | rfl | (simp; done) | (simp [*]; done)), H', ⟨by have := HK1.out; omega⟩, by repeat (first | exact Drawn0.refl _ | apply Drawn0.step)⟩
       ·rw [if_neg c7] at H
        exact absurd H (by simp)
      ·rw [if_neg c6] at H
       exact absurd H (by simp)
     ·rw [if_neg c5] at H
      exact absurd H (by simp)
    ·rw [if_neg c4] at H
     have c4b0 : decide (x13_1 < (l0.length : Int)) = false := decide_eq_false c4
     clear c4
     obtain rfl := Option.some.inj H
     go_wp2
     repeat (go_quiet (fail); try go_wp2)
     go_ret
     exact ⟨by first | rfl | (simp; done) | (simp [*]; done), by repeat (first | exact Drawn0.refl _ | apply Drawn0.step)⟩
 ·rw [if_neg c3] at H
  have c3b0 : ((l0.length : Int) == (l1.length : Int)) = false := beq_eq_false_iff_ne.mpr c3
  have c3b1 : ((l0.length : Int) != (l1.length : Int)) = true := bne_iff_ne.mpr c3
  have c3b2 : (l0.length == l1.length) = false := by first | simpa using c3 | (simp at c3 ⊢; omega)
  obtain rfl := Option.some.inj H
  go_enter Tryz.func9, Tryz.ntmps9
  go_wp2
  repeat (go_quiet (fail); try go_wp2)
  go_ret
  exact ⟨by first | rfl | (simp; done) | (simp [*]; done), by repeat (first | exact Drawn0.refl _ | apply Drawn0.step)⟩

/-! ### chart_Chart_Without: function 10 -/
def chart_Chart_Without.l0 : Nat → Int → List (S26) → List (S26) → Int → Int → Option ((List (S26)))
 | 0, _, _, _, _, _ => none
 | k + 1, x1, x5, x8, x9, x10 => if x10 < x9 then (if 0 ≤ x10 then (if x10 < (x8.length : Int) then (if ((rd_T26 x8 x10).f0) = x1 then (chart_Chart_Without.l0 k x1 x5 x8 x9 (wrap64 (x10 + 1))) else (if x5.length < 4398046511104 then (chart_Chart_Without.l0 k x1 (x5 ++ [(⟨(rd_T26 x8 x10).f0, (rd_T26 x8 x10).f1, (rd_T26 x8 x10).f2, (rd_T26 x8 x10).f3⟩ : S26)]) x8 x9 (wrap64 (x10 + 1))) else (none))) else (none)) else (none)) else (some x5)
def chart_Chart_Without.f (k : Nat) (l0 : List (S26)) (a1 : Int) : Option ((List (S26))) := chart_Chart_Without.l0 k a1 ([] : List (S26)) l0 (l0.length : Int) 0
theorem chart_Chart_Without.mono_l : ∀ k, (∀ y0 y1 y2 y3 y4, LeO (chart_Chart_Without.l0 k y0 y1 y2 y3 y4) (chart_Chart_Without.l0 (k + 1) y0 y1 y2 y3 y4))
 | 0 => fun _ _ _ _ _ r h => by simp [chart_Chart_Without.l0] at h
 | k + 1 => by
  have ih0 := chart_Chart_Without.mono_l k
  ·intro y0 y1 y2 y3 y4
   unfold chart_Chart_Without.l0
   repeat' first
   | (with_reducible exact ih0 _ _ _ _ _)
   | (with_reducible exact LeO.refl _)
   | (with_reducible exact LeO.none _)
   | (with_reducible refine LeO.ite ?_ ?_)
   | (with_reducible refine LeO.bind ?_ (fun _ => ?_))
   | exact ih0 _ _ _ _ _
   | exact LeO.none _
   | refine LeO.ite ?_ ?_
   | refine LeO.bind ?_ (fun _ => ?_)
theorem chart_Chart_Without.mono : ∀ a0 a1 k, LeO (chart_Chart_Without.f k a0 a1) (chart_Chart_Without.f (k + 1) a0 a1) := by
 intro a0 a1 k
 have ih0 := chart_Chart_Without.mono_l k
 unfold chart_Chart_Without.f
 repeat' first
   | (with_reducible exact ih0 _ _ _ _ _)
   | (with_reducible exact LeO.refl _)
   | (with_reducible exact LeO.none _)
   | (with_reducible refine LeO.ite ?_ ?_)
   | (with_reducible refine LeO.bind ?_ (fun _ => ?_))
   | exact ih0 _ _ _ _ _
   | exact LeO.none _
   | refine LeO.ite ?_ ?_
   | refine LeO.bind ?_ (fun _ => ?_)
set_option maxHeartbeats 8000000 in
set_option maxRecDepth 100000 in
theorem chart_Chart_Without.calls (k : Nat) (A0 : Option Addr) (c0 : Nat) (l0 : List (S26)) (a1 : Int) (r : List (S26)) (w : World) (hr0 : Kd.C k26 w A0 l0.length l0) (hc0 : l0.length ≤ c0) (h : chart_Chart_Without.f k l0 a1 = some r) :
  Calls Tryz.prog 10 #[.slice A0 l0.length c0, .int .u32 a1] w fun e w' => ∃ v0_ : Value, e = .returned (v0_) ∧ Kd.R k26 26 w' w.heap.size (fun _ => True) v0_ r ∧ Below w.heap.size w w' := by
 have hu26 := Tryz.underlying26
 have HR0 := Aside0.mk hr0
 have HC0 := Aside0.mk hc0
 clear hr0 hc0
 have HB := Aside0.mk (Below.refl w.heap.size w)
 have H : (chart_Chart_Without.l0 k a1 ([] : List (S26)) l0 (l0.length : Int) 0) = some r := h
 clear h
 have H' := Aside0.mk H
 clear H
 go_enter Tryz.func10, Tryz.ntmps10
 go_wp2
 go_loopg [5, 10] k (fun kq v5 v10 w' => ∃ (x5_1 : List (S26)) (x10_1 : Int), v10 = .int .i64 x10_1 ∧ Aside0 (chart_Chart_Without.l0 kq a1 x5_1 l0 (l0.length : Int) x10_1 = some r) ∧ Aside0 (kq ≤ k) ∧ Aside0 (Kd.R k26 26 w' w.heap.size (fun _ => True) v5 x5_1) ∧ Aside0 (Below w.heap.size w w'))
 case atStart => exact ⟨(([] : List (S26))), (0), (by first | rfl | (simp; done) | (simp [*]; done)), H', ⟨Nat.le_refl _⟩, ⟨by first | exact Kd.R_nil _ _ _ _ _ | exact Kd.N_nil _ _ _ _ _ | exact Kd.V_nil _ _ _ _ _ | exact Kd.Q_nil _ _ _ _ _ | exact Kd.S_nil _ _ _ _ _⟩, ⟨by repeat (first | (with_reducible first | exact HB.out | apply below_alloc | apply pw_below_drewN | apply below_drew1) | exact HB.out)⟩⟩
 case round =>
  clear H'
  try clear c1
  try clear p2
  obtain ⟨x5_1, x10_1, rfl, HA, HK1, HO_5, HB⟩ := hrel
  cases gk with
  | zero => exact absurd HA.out (by simp [chart_Chart_Without.l0])
  | succ k1 =>
   have H := HA.out
   clear HA
   simp only [chart_Chart_Without.l0] at H
   by_cases c3 : x10_1 < (l0.length : Int)
   ·rw [if_pos c3] at H
    have c3b0 : decide (x10_1 < (l0.length : Int)) = true := decide_eq_true c3
    clear c3
    by_cases c4 : 0 ≤ x10_1
    ·rw [if_pos c4] at H
     have c4b0 : decide (0 ≤ x10_1) = true := decide_eq_true c4
     clear c4
     by_cases c5 : x10_1 < (l0.length : Int)
     ·rw [if_pos c5] at H
      have c5b0 : decide (x10_1 < (l0.length : Int)) = true := decide_eq_true c5
      clear c5
      by_cases c6 : ((rd_T26 l0 x10_1).f0) = a1
      ·rw [if_pos c6] at H
       have c6b0 : (((rd_T26 l0 x10_1).f0) == a1) = true := beq_iff_eq.mpr c6
       have c6b1 : (((rd_T26 l0 x10_1).f0) != a1) = false := bne_eq_false_iff_eq.mpr c6
       clear c6
       have H' := Aside0.mk H
       clear H
       have p277 : 0 ≤ (x10_1 : Int) := of_decide_eq_true (by first | (with_reducible assumption) | assumption)
       have q277 : x10_1 < (l0.length : Int) := of_decide_eq_true (by first | (with_reducible assumption) | assumption)
       obtain ⟨ad277, e277, hx277_0, hx277_1, hx277_2, hx277_3⟩ := at_T26 HR0.out x10_1 p277 q277
       cases e277
       replace hx277_0 := (HB.out.cell (World.block_lt_of_cell? w _ hx277_0)).trans hx277_0
       replace hx277_1 := (HB.out.cell (World.block_lt_of_cell? w _ hx277_1)).trans hx277_1
       replace hx277_2 := (HB.out.cell (World.block_lt_of_cell? w _ hx277_2)).trans hx277_2
       replace hx277_3 := (HB.out.cell (World.block_lt_of_cell? w _ hx277_3)).trans hx277_3
       replace p277 := eq_true p277
       replace q277 := eq_true q277
       go_wp2_with (first | ((with_reducible refine gate_dst (N := 7) rfl ?_); refine box_event ?hg (N := 7) ?hd (cs := #[.int .u32 0, .string (⟨#[]⟩ : ByteArray), .int .u8 0, .int .u32 0]) (t := 26) ?hr ?_; (case hd => rfl); (case hg => rfl); (case hr => first | (go_simp; done) | (go_simp; rfl)); intro gb278 hg w7 hbox hb; have n0_ := Aside0.mk (Kd.R_below (Kd.R_elderB (by (with_reducible repeat (first | apply Kd.R_alloc | apply Kd.R_drewN | apply Kd.R_drew)); exact HO_5.out) gb278 (Nat.le_of_eq hg.symm)) hb); have n1_ := Aside0.mk (below_step (by repeat (first | (with_reducible first | exact HB.out | apply below_alloc | apply pw_below_drewN | apply below_drew1) | exact HB.out)) hb); have n2_ := Aside0.mk (hbox); have n3_ := Aside0.mk ((by rw [hg]; exact (below_size (by repeat (first | (with_reducible first | exact HB.out | apply below_alloc | apply pw_below_drewN | apply below_drew1) | exact HB.out))) : w.heap.size ≤ gb278)); have n4_ := Aside0.mk ((by rw [hg]; exact (below_size (by repeat (first | (with_reducible first | exact HB.out | apply below_alloc | apply pw_below_drewN | apply below_drew1) | exact HB.out))) : w.heap.size ≤ gb278)); clear HO_5; clear HB; have HO_5 := n0_; have HB := n1_; have BK278 := n2_; have GW278 := n3_; have GE278 := n4_; clear n0_ n1_ n2_ n3_ n4_; clear hb hbox hg; have hcz8_0 : w7.cell? ⟨gb278, 0, none⟩ = some (.int .u32 0) := (blk_cell BK278.out 0).trans rfl; have hcz8_1 : w7.cell? ⟨gb278, 1, none⟩ = some (.string (⟨#[]⟩ : ByteArray)) := (blk_cell BK278.out 1).trans rfl; have hcz8_2 : w7.cell? ⟨gb278, 2, none⟩ = some (.int .u8 0) := (blk_cell BK278.out 2).trans rfl; have hcz8_3 : w7.cell? ⟨gb278, 3, none⟩ = some (.int .u32 0) := (blk_cell BK278.out 3).trans rfl; have hfz8_0 := blk_frozen BK278.out 0; have hfz8_1 := blk_frozen BK278.out 1; have hfz8_2 := blk_frozen BK278.out 2; have hfz8_3 := blk_frozen BK278.out 3))
       go_roundg k1
       case measure => have := HK1.out; omega
       case rel => exact ⟨(x5_1), (wrap64 (x10_1 + 1)), (by first | rfl | (simp; done) | (simp [*]; done)), H', ⟨by have := HK1.out; omega⟩, ⟨by (with_reducible repeat (first | apply Kd.R_alloc | apply Kd.R_drewN | apply Kd.R_drew)); exact Kd.R_mono (Kd.R_far (p := ⟨gb278, 3, none⟩) (Kd.R_far (p := ⟨gb278, 2, none⟩) (Kd.R_far (p := ⟨gb278, 1, none⟩) (Kd.R_far (p := ⟨gb278, 0, none⟩) (Kd.R_mono HO_5.out (fun k_ hk => (⟨hk, hk.2⟩ : _ ∧ k_ ≠ gb278))) (fun _ hk => hk.2) (.int .u32 ((rd_T26 l0 x10_1).f0))) (fun _ hk => hk.2) (.string ((rd_T26 l0 x10_1).f1))) (fun _ hk => hk.2) (.int .u8 ((rd_T26 l0 x10_1).f2))) (fun _ hk => hk.2) (.int .u32 ((rd_T26 l0 x10_1).f3))) (fun _ hk => trivial)⟩, ⟨by repeat (first | (with_reducible first | exact HB.out | apply below_alloc | apply pw_below_drewN | apply below_drew1 | refine below_set ?_ GE278.out) | exact HB.out)⟩⟩
      ·rw [if_neg c6] at H
       have c6b0 : (((rd_T26 l0 x10_1).f0) == a1) = false := beq_eq_false_iff_ne.mpr c6
       have c6b1 : (((rd_T26 l0 x10_1).f0) != a1) = true := bne_iff_ne.mpr c6
       by_cases c9 : x5_1.length < 4398046511104
       ·rw [if_pos c9] at H
        have LMc9 := Aside0.mk c9
        clear c9
        obtain ⟨y279, hy279⟩ : ∃ y_ : List (S26), y_ = (x5_1 ++ [(⟨(rd_T26 l0 x10_1).f0, (rd_T26 l0 x10_1).f1, (rd_T26 l0 x10_1).f2, (rd_T26 l0 x10_1).f3⟩ : S26)]) := ⟨_, rfl⟩
        replace H : (chart_Chart_Without.l0 k1 a1 y279 l0 (l0.length : Int) (wrap64 (x10_1 + 1))) = some r := by first | (rw [hy279]; with_reducible exact H) | (have H2_ := (Option.bind_some _ _).symm.trans H; rw [hy279]; with_reducible exact H2_) | (have H2_ := (Option.bind_some _ _).symm.trans H; with_reducible exact H2_) | with_reducible exact H | (rw [hy279]; exact H) | exact H
        have Ny279 := Aside0.mk hy279
        clear hy279
        have H' := Aside0.mk H
        clear H
        have p277 : 0 ≤ (x10_1 : Int) := of_decide_eq_true (by first | (with_reducible assumption) | assumption)
        have q277 : x10_1 < (l0.length : Int) := of_decide_eq_true (by first | (with_reducible assumption) | assumption)
        obtain ⟨ad277, e277, hx277_0, hx277_1, hx277_2, hx277_3⟩ := at_T26 HR0.out x10_1 p277 q277
        cases e277
        replace hx277_0 := (HB.out.cell (World.block_lt_of_cell? w _ hx277_0)).trans hx277_0
        replace hx277_1 := (HB.out.cell (World.block_lt_of_cell? w _ hx277_1)).trans hx277_1
        replace hx277_2 := (HB.out.cell (World.block_lt_of_cell? w _ hx277_2)).trans hx277_2
        replace hx277_3 := (HB.out.cell (World.block_lt_of_cell? w _ hx277_3)).trans hx277_3
        replace p277 := eq_true p277
        replace q277 := eq_true q277
        go_wp2_with (first | ((with_reducible refine gate_dst (N := 7) rfl ?_); refine box_event ?hg (N := 7) ?hd (cs := #[.int .u32 0, .string (⟨#[]⟩ : ByteArray), .int .u8 0, .int .u32 0]) (t := 26) ?hr ?_; (case hd => rfl); (case hg => rfl); (case hr => first | (go_simp; done) | (go_simp; rfl)); intro gb278 hg w10 hbox hb; have n0_ := Aside0.mk (Kd.R_below (Kd.R_elderB (by (with_reducible repeat (first | apply Kd.R_alloc | apply Kd.R_drewN | apply Kd.R_drew)); exact HO_5.out) gb278 (Nat.le_of_eq hg.symm)) hb); have n1_ := Aside0.mk (below_step (by repeat (first | (with_reducible first | exact HB.out | apply below_alloc | apply pw_below_drewN | apply below_drew1) | exact HB.out)) hb); have n2_ := Aside0.mk (hbox); have n3_ := Aside0.mk ((by rw [hg]; exact (below_size (by repeat (first | (with_reducible first | exact HB.out | apply below_alloc | apply pw_below_drewN | apply below_drew1) | exact HB.out))) : w.heap.size ≤ gb278)); have n4_ := Aside0.mk ((by rw [hg]; exact (below_size (by repeat (first | (with_reducible first | exact HB.out | apply below_alloc | apply pw_below_drewN | apply below_drew1) | exact HB.out))) : w.heap.size ≤ gb278)); clear HO_5; clear HB; have HO_5 := n0_; have HB := n1_; have BK278 := n2_; have GW278 := n3_; have GE278 := n4_; clear n0_ n1_ n2_ n3_ n4_; clear hb hbox hg; have hcz11_0 : w10.cell? ⟨gb278, 0, none⟩ = some (.int .u32 0) := (blk_cell BK278.out 0).trans rfl; have hcz11_1 : w10.cell? ⟨gb278, 1, none⟩ = some (.string (⟨#[]⟩ : ByteArray)) := (blk_cell BK278.out 1).trans rfl; have hcz11_2 : w10.cell? ⟨gb278, 2, none⟩ = some (.int .u8 0) := (blk_cell BK278.out 2).trans rfl; have hcz11_3 : w10.cell? ⟨gb278, 3, none⟩ = some (.int .u32 0) := (blk_cell BK278.out 3).trans rfl; have hfz11_0 := blk_frozen BK278.out 0; have hfz11_1 := blk_frozen BK278.out 1; have hfz11_2 := blk_frozen BK278.out 2; have hfz11_3 := blk_frozen BK278.out 3) | ((with_reducible refine gate_builtin (b := .append) (xs := #[.tmp 18, .tmp 20]) rfl ?_); at_builtin; refine Kd.R_append k26 (w0 := w) w.heap.size rfl (.tmp 18) (.tmp 20) 29 26 (.agg #[(.int .u32 0), (.string ⟨#[]⟩), (.int .u8 0), (.int .u32 0)]) 32 rfl Tryz.underlying29 info26 rfl (by decide) (by omega) u5 x5_1 (⟨(rd_T26 l0 x10_1).f0, (rd_T26 l0 x10_1).f1, (rd_T26 l0 x10_1).f2, (rd_T26 l0 x10_1).f3⟩ : S26) [.int .u32 ((rd_T26 l0 x10_1).f0), .string ((rd_T26 l0 x10_1).f1), .int .u8 ((rd_T26 l0 x10_1).f2), .int .u32 ((rd_T26 l0 x10_1).f3)] (fun k_ => k_ ≠ gb278) (fun _ => False) rfl (by first | (go_simp; done) | (go_simp; rfl)) ?aP (fun _ hk => hk.elim) ?aF ?aO ?aB ?aS ?aL ?_; (case aP => exact k26_mkM _ _ _ (⟨(rd_T26 l0 x10_1).f0, (rd_T26 l0 x10_1).f1, (rd_T26 l0 x10_1).f2, (rd_T26 l0 x10_1).f3⟩ : S26)); (case aB => exact (by repeat (first | (with_reducible first | exact HB.out | apply below_alloc | apply pw_below_drewN | apply below_drew1 | refine below_set ?_ GE278.out) | exact HB.out))); (case aF => exact (fun k_ hk => Kd.freshB (g := gb278) (o := .cells #[.int .u32 ((rd_T26 l0 x10_1).f0), .string ((rd_T26 l0 x10_1).f1), .int .u8 ((rd_T26 l0 x10_1).f2), .int .u32 ((rd_T26 l0 x10_1).f3)] 26 (0, 0)) (by (with_reducible repeat (first | refine blk_drewN ?_ _ | refine blk_drew ?_ | refine blk_alloc ?_ _)); refine blk_put (cs := #[.int .u32 ((rd_T26 l0 x10_1).f0), .string ((rd_T26 l0 x10_1).f1), .int .u8 ((rd_T26 l0 x10_1).f2), .int .u32 0]) ?_ 3 _ rfl; (with_reducible repeat (first | refine blk_drewN ?_ _ | refine blk_drew ?_ | refine blk_alloc ?_ _)); refine blk_put (cs := #[.int .u32 ((rd_T26 l0 x10_1).f0), .string ((rd_T26 l0 x10_1).f1), .int .u8 0, .int .u32 0]) ?_ 2 _ rfl; (with_reducible repeat (first | refine blk_drewN ?_ _ | refine blk_drew ?_ | refine blk_alloc ?_ _)); refine blk_put (cs := #[.int .u32 ((rd_T26 l0 x10_1).f0), .string (⟨#[]⟩ : ByteArray), .int .u8 0, .int .u32 0]) ?_ 1 _ rfl; (with_reducible repeat (first | refine blk_drewN ?_ _ | refine blk_drew ?_ | refine blk_alloc ?_ _)); refine blk_put (cs := #[.int .u32 0, .string (⟨#[]⟩ : ByteArray), .int .u8 0, .int .u32 0]) ?_ 0 _ rfl; (with_reducible repeat (first | refine blk_drewN ?_ _ | refine blk_drew ?_ | refine blk_alloc ?_ _)); exact BK278.out) k_ hk)); (case aO => exact (by (with_reducible repeat (first | apply Kd.R_alloc | apply Kd.R_drewN | apply Kd.R_drew)); exact Kd.R_mono (Kd.R_far (p := ⟨gb278, 3, none⟩) (Kd.R_far (p := ⟨gb278, 2, none⟩) (Kd.R_far (p := ⟨gb278, 1, none⟩) (Kd.R_far (p := ⟨gb278, 0, none⟩) (Kd.R_mono HO_5.out (fun k_ hk => (⟨hk, hk.2⟩ : _ ∧ k_ ≠ gb278))) (fun _ hk => hk.2) (.int .u32 ((rd_T26 l0 x10_1).f0))) (fun _ hk => hk.2) (.string ((rd_T26 l0 x10_1).f1))) (fun _ hk => hk.2) (.int .u8 ((rd_T26 l0 x10_1).f2))) (fun _ hk => hk.2) (.int .u32 ((rd_T26 l0 x10_1).f3))) (fun _ hk => hk.1.2))); (case aS => exact (below_size (by repeat (first | (with_reducible first | exact HB.out | apply below_alloc | apply pw_below_drewN | apply below_drew1 | refine below_set ?_ GE278.out) | exact HB.out)))); (case aL => have := LMc9.out; omega); intro v280 w12 ho hb hg hat; rw [← Ny279.out] at ho; have n0_ := Aside0.mk (blk_grown (g := gb278) (o := .cells #[.int .u32 ((rd_T26 l0 x10_1).f0), .string ((rd_T26 l0 x10_1).f1), .int .u8 ((rd_T26 l0 x10_1).f2), .int .u32 ((rd_T26 l0 x10_1).f3)] 26 (0, 0)) (by (with_reducible repeat (first | refine blk_drewN ?_ _ | refine blk_drew ?_ | refine blk_alloc ?_ _)); refine blk_put (cs := #[.int .u32 ((rd_T26 l0 x10_1).f0), .string ((rd_T26 l0 x10_1).f1), .int .u8 ((rd_T26 l0 x10_1).f2), .int .u32 0]) ?_ 3 _ rfl; (with_reducible repeat (first | refine blk_drewN ?_ _ | refine blk_drew ?_ | refine blk_alloc ?_ _)); refine blk_put (cs := #[.int .u32 ((rd_T26 l0 x10_1).f0), .string ((rd_T26 l0 x10_1).f1), .int .u8 0, .int .u32 0]) ?_ 2 _ rfl; (with_reducible repeat (first | refine blk_drewN ?_ _ | refine blk_drew ?_ | refine blk_alloc ?_ _)); refine blk_put (cs := #[.int .u32 ((rd_T26 l0 x10_1).f0), .string (⟨#[]⟩ : ByteArray), .int .u8 0, .int .u32 0]) ?_ 1 _ rfl; (with_reducible repeat (first | refine blk_drewN ?_ _ | refine blk_drew ?_ | refine blk_alloc ?_ _)); refine blk_put (cs := #[.int .u32 0, .string (⟨#[]⟩ : ByteArray), .int .u8 0, .int .u32 0]) ?_ 0 _ rfl; (with_reducible repeat (first | refine blk_drewN ?_ _ | refine blk_drew ?_ | refine blk_alloc ?_ _)); exact BK278.out) hg (Kd.R_away HO_5.out (fun _ hk => hk.2))); have n1_ := Aside0.mk (hb); have n2_ := Aside0.mk (ho); clear BK278; clear HB; clear HO_5; have BK278 := n0_; have HB := n1_; have HO281 := n2_; clear n0_ n1_ n2_; clear ho hb hg hat))
        go_roundg k1
        case measure => have := HK1.out; omega
        case rel => exact ⟨(y279), (wrap64 (x10_1 + 1)), (by first | rfl | (simp; done) | (simp [*]; done)), H', ⟨by have := HK1.out; omega⟩, ⟨by (with_reducible repeat (first | apply Kd.R_alloc | apply Kd.R_drewN | apply Kd.R_drew)); exact Kd.R_mono HO281.out (fun _ hk => trivial)⟩, ⟨by repeat (first | (with_reducible first | exact HB.out | apply below_alloc | apply pw_below_drewN | apply below_drew1 | refine below_set ?_ GE278.out) | exact HB.out)⟩⟩
       ·rw [if_neg c9] at H
        exact absurd H (by simp)
     ·rw [if_neg c5] at H
      exact absurd H (by simp)
    ·rw [if_neg c4] at H
     exact absurd H (by simp)
   ·rw [if_neg c3] at H
    have c3b0 : decide (x10_1 < (l0.length : Int)) = false := decide_eq_false c3
    clear c3
    obtain rfl := Option.some.inj H
    go_wp2
    go_ret
    exact ⟨_, by first | rfl | (simp [errW_none, errW_some] <;> rfl) | (simp [*, errW_none, errW_some] <;> rfl), by (with_reducible repeat (first | apply Kd.R_alloc | apply Kd.R_drewN | apply Kd.R_drew)); exact HO_5.out, by repeat (first | (with_reducible first | exact HB.out | apply below_alloc | apply pw_below_drewN | apply below_drew1) | exact HB.out)⟩

/-! ### chart_Account_24: function 24 -/
set_option maxHeartbeats 8000000 in
set_option maxRecDepth 100000 in
theorem chart_Account_24.end_ (w : World) (base : Nat) (v : Value) (n : Nat) (X V : List Value) (g : Nat) (hV : V.length = 4) (hown : w.ownsRow base 26 4 v n X) (hb : base ≤ w.heap.size) (hg : w.heap[g]? = some (.cells V.toArray 26 (0, 0))) (h1 : ∀ u ∈ V, u.oneCell' = true) (hn : n < 1000000000000) :
    Calls Tryz.prog 24 #[v, .int .i64 n, .slice (some ⟨g, 0, none⟩) 1 1] w fun e w' => ∃ v', e = .returned v' ∧ w'.ownsRow base 26 4 v' (n + 1) (X ++ V) ∧ w.grownBy w' v.ownBlock ∧ (v'.ownBlock = v.ownBlock ∨ v'.ownBlock = some w.heap.size) := by
  obtain ⟨i0, hi0, hzz⟩ := Option.map_eq_some_iff.1 info26
  simp only [Prod.mk.injEq] at hzz
  obtain ⟨hz0, hz1, hz2⟩ := hzz
  obtain ⟨v', w', hr, r1, r2, r3⟩ := XMem.append_own (P := Tryz.prog) w base 29 28 29 26 26 i0 _ 4 32 Tryz.underlying29 Tryz.underlying28 hi0 hz0 hz1 hz2 rfl (by decide) v n X hown ⟨g, 0, none⟩ 1 1 (by decide) V (by omega) (fun j u hj => by
    have hadd : (⟨g, 0, none⟩ : Addr).add j = ⟨g, j, none⟩ := by unfold Addr.add; split <;> simp_all
    rw [hadd, cell_of_row w g j _ 26 (0, 0) hg]
    simpa using hj) h1 (by omega) hb
  have hsl : ∃ A c, v = .slice A n c ∧ n ≤ c := by
    rcases hown.2 with ⟨rfl, rfl⟩ | ⟨g', cap, cur, rfl, _, _, hnc, _⟩
    · exact ⟨_, _, rfl, Nat.le_refl _⟩
    · exact ⟨_, _, rfl, hnc⟩
  obtain ⟨A, c, rfl, hnc⟩ := hsl
  rcases A with _ | ad
  · go_enter Tryz.func24, Tryz.ntmps24
    go_wp2_with (at_builtin; refine XMem.wpList_run_append rfl _ _ 29 28 rfl _ _ rfl rfl hr ?_)
    all_goals (go_ret; exact ⟨_, rfl, r1, r2, r3⟩)
  · go_enter Tryz.func24, Tryz.ntmps24
    go_wp2_with (at_builtin; refine XMem.wpList_run_append rfl _ _ 29 28 rfl _ _ rfl rfl hr ?_)
    all_goals (go_ret; exact ⟨_, rfl, r1, r2, r3⟩)
set_option maxHeartbeats 8000000 in
set_option maxRecDepth 100000 in
theorem chart_Account_24.shift (w : World) (base : Nat) (gs n c i : Nat) (cur : Array Value) (X Y V : List Value) (g : Nat) (hi : i < n) (hX : X.length = i * 4) (hY : Y.length = (n - i) * 4) (hV : V.length = 4) (hgs : w.heap[gs]? = some (.cells cur 26 (0, 0))) (hcs : cur.size = c * 4) (htk : cur.toList.take (n * 4) = X ++ Y)
    (hroom : n + 1 ≤ c) (hcm : c ≤ maxLen) (hg : w.heap[g]? = some (.cells V.toArray 26 (0, 0))) (hne : g ≠ gs) (h1 : ∀ u ∈ V, u.oneCell' = true) (h2 : ∀ u ∈ Y, u.oneCell' = true) :
    Calls Tryz.prog 24 #[.slice (some ⟨gs, 0, none⟩) n c, .int .i64 i, .slice (some ⟨g, 0, none⟩) 1 1] w fun e w' => e = .returned (.slice (some ⟨gs, 0, none⟩) (n + 1) c) ∧ ∃ cur' : Array Value, w'.heap[gs]? = some (.cells cur' 26 (0, 0)) ∧ cur'.size = c * 4 ∧ cur'.toList.take ((n + 1) * 4) = X ++ V ++ Y ∧ w.grownBy w' (some gs) := by
  obtain ⟨i0, hi0, hzz⟩ := Option.map_eq_some_iff.1 info26
  simp only [Prod.mk.injEq] at hzz
  obtain ⟨hz0, hz1, hz2⟩ := hzz
  have hcx : n + 1 ≤ 9223372036854775807 := by simp only [maxLen] at hcm; omega
  have hcx2 : c ≤ 9223372036854775807 := by simp only [maxLen] at hcm; omega
  have hov : ∀ lb cb, (callFunc 36 #[.slice (some ⟨g, 0, none⟩) 1 1, .slice (some ⟨gs, (i + 1) * 4, none⟩) lb cb]).run Tryz.prog w = .ok (.value (.bool false)) w := fun lb cb => by
    rw [run_callFunc_extern Tryz.func36 (by kernel_rfl) (by kernel_rfl) (by kernel_rfl) (e := Extern.SlicesOverlaps.overlaps #[28, 28] #[4]) (by kernel_rfl),
      Lib.run_overlaps_apart w 28 4 26 Tryz.underlying28 4 (fun w => by simp [Go.sizeOf, typeInfo, hi0, hz1]) ⟨g, 0, none⟩ ⟨gs, (i + 1) * 4, none⟩ 1 1 lb cb hne 26 26 4 cur.size (by simp [World.shape?, hg, hV]) (by simp [World.shape?, hgs]) (by omega) (by simp [World.frozen?, hg]) (by simp [World.frozen?, hg])]
    rfl
  have hcell : ∀ j u, Y[j]? = some u → w.cell? ((⟨gs, i * 4, none⟩ : Addr).add j) = some u := fun j u hj => by
    rw [Addr.add_lit, cell_of_row w gs _ cur 26 (0, 0) hgs]
    have hjl := (List.getElem?_eq_some_iff.1 hj).1
    have : (cur.toList.take (n * 4))[i * 4 + j]? = some u := by
      rw [htk, List.getElem?_append_right (by omega), hX]
      simpa using hj
    rw [List.getElem?_take] at this
    split at this
    · simpa using this
    · cases this
  have hlim : n * 4 + 4 ≤ cur.size := by rw [hcs]; omega
  have hcp1 : ∀ ty dc sc, (Builtin.copy_ #[29, 29] ty #[.slice (some ⟨gs, (i + 1) * 4, none⟩) (n - i) dc, .slice (some ⟨gs, i * 4, none⟩) (n + 1 - i) sc]).run Tryz.prog w.drew = .ok (goInt ((n - i : Nat) : Int)) (w.drew.setRow gs (cur.toList.take ((i + 1) * 4) ++ Y ++ cur.toList.drop ((i + 1) * 4 + Y.length)).toArray) := fun ty dc sc =>
    XMem.copy_run w.drew 29 29 ty 26 i0 Tryz.underlying29 hi0 gs ((i + 1) * 4) cur 26 hgs (n - i) dc ⟨gs, i * 4, none⟩ (n + 1 - i) sc (n - i) Y (by show min _ _ = _; omega) (by rw [hY, hz1]) hcell (by rw [hY]; omega) h2
  obtain ⟨cur1, hcur1⟩ : ∃ cur1, cur1 = (cur.toList.take ((i + 1) * 4) ++ Y ++ cur.toList.drop ((i + 1) * 4 + Y.length)).toArray := ⟨_, rfl⟩
  rw [← hcur1] at hcp1
  have hs1 : cur1.size = c * 4 := by
    rw [hcur1, ← hcs]
    simp only [List.size_toArray, List.length_append, List.length_take, List.length_drop, Array.length_toList]
    omega
  have hX0 : cur.toList.take (i * 4) = X := by
    have : (cur.toList.take (n * 4)).take (i * 4) = X := by rw [htk, ← hX, List.take_left]
    rwa [List.take_take, Nat.min_eq_left (by omega)] at this
  have hta : cur1.toList.take (i * 4) = X := by
    rw [hcur1, List.append_assoc, List.take_append_of_le_length (by simp only [List.length_take, Array.length_toList]; omega), List.take_take, Nat.min_eq_left (by omega), hX0]
  have htb : cur1.toList.drop (i * 4 + V.length) = Y ++ cur.toList.drop ((i + 1) * 4 + Y.length) := by
    rw [hcur1, List.append_assoc]
    have hl : (cur.toList.take ((i + 1) * 4)).length = i * 4 + V.length := by rw [List.length_take, Array.length_toList]; omega
    show List.drop _ (_ ++ (_ ++ _)) = _
    rw [← hl, List.drop_left]
  clear hcur1
  obtain ⟨W1, hW1⟩ : ∃ W1, W1 = w.drew.setRow gs cur1 := ⟨_, rfl⟩
  have hg1 : W1.heap[gs]? = some (.cells cur1 26 (0, 0)) := by rw [hW1]; exact setRow_heap w.drew gs cur cur1 26 (0, 0) hgs
  have hgv : W1.heap[g]? = some (.cells V.toArray 26 (0, 0)) := by rw [hW1, XMem.setRow_other _ _ _ _ hne]; exact hg
  have hcp2 : ∀ (W : World), W.heap = W1.heap → ∀ ty dc, (Builtin.copy_ #[29, 28] ty #[.slice (some ⟨gs, i * 4, none⟩) (n + 1 - i) dc, .slice (some ⟨g, 0, none⟩) 1 1]).run Tryz.prog W = .ok (goInt 1) (W.setRow gs (cur1.toList.take (i * 4) ++ V ++ cur1.toList.drop (i * 4 + V.length)).toArray) := fun W hW ty dc =>
    XMem.copy_run W 29 28 ty 26 i0 Tryz.underlying29 hi0 gs (i * 4) cur1 26 (by rw [hW]; exact hg1) (n + 1 - i) dc ⟨g, 0, none⟩ 1 1 1 V (by show min _ _ = _; omega) (by rw [hV, hz1])
      (fun j u hj => by
        rw [Addr.add_lit, Nat.zero_add, cell_of_row W g j _ 26 (0, 0) (by rw [hW]; exact hgv)]
        simpa using hj) (by rw [hV, hs1]; omega) h1
  have mixed : Tryz.prog.follows Departure.mixedOrders = true := by kernel_rfl
  have hend : ∃ cur' : Array Value, cur' = (cur1.toList.take (i * 4) ++ V ++ cur1.toList.drop (i * 4 + V.length)).toArray ∧ cur'.size = c * 4 ∧ cur'.toList.take ((n + 1) * 4) = X ++ V ++ Y := by
    refine ⟨_, rfl, ?_, ?_⟩
    · simp only [List.size_toArray, List.length_append, List.length_take, List.length_drop, Array.length_toList]
      omega
    · show List.take _ (_ ++ _ ++ _) = _
      rw [hta, htb, ← List.append_assoc, show (n + 1) * 4 = (X ++ V ++ Y).length by simp only [List.length_append]; omega, List.take_left]
  obtain ⟨cur2, hcur2, hs2, ht2⟩ := hend
  rw [← hcur2] at hcp2
  rw [← hW1] at hcp1
  have hheap : W1.heap = (W1 : World).heap := rfl
  have hgr : w.drew.grownBy W1 (some gs) := by rw [hW1]; exact XMem.setRow_grown _ _ _
  have hgr0 : w.grownBy W1 (some gs) := ⟨hgr.os, hgr.tape, hgr.output, hgr.size, hgr.block⟩
  clear hW1 hcur2 hta htb hX0 htk hs1
  have hz1' : ¬ ((1 : Int) = 0) := by omega
  have hz2' : ¬ ((i : Int) = (n : Int)) := by omega
  have hw1 : IntKind.i64.wrap ((i : Int) + 1) = (i : Int) + 1 := by rw [IntKind.wrap_i64]; omega
  have hb1 : (0 : Int) ≤ (i : Int) + 1 := by omega
  have hin : i ≤ n := by omega
  have htn : ((i : Int) + 1).toNat = i + 1 := by omega
  have hb2 : ¬ (c = i + 1) := by omega
  have hb3 : (i : Int) ≤ (n : Int) + 1 := by omega
  have hb4 : ¬ (c = i) := by omega
  go_enter Tryz.func24, Tryz.ntmps24
  go_wp2_with (simp only [hov])
  go_region_law_o (refine XMem.step_copy rfl _ _ 29 29 rfl _ _ (by simp [Act.eval, Act.put]) (by simp [Act.eval, Act.put]) (hcp1 _ _ _) ?_)
  go_wp2_with (at_builtin; refine XMem.wpList_copy _ rfl _ _ 29 28 rfl _ _ rfl rfl (hcp2 _ rfl _ _) ?_)
  go_ret
  refine ⟨rfl, cur2, ?_, hs2, ht2, ?_⟩
  · exact setRow_heap _ gs cur1 cur2 26 (0, 0) hg1
  · exact hgr0.trans (XMem.setRow_grown _ _ _)
set_option maxHeartbeats 8000000 in
set_option maxRecDepth 100000 in
theorem chart_Account_24.grow (w : World) (base : Nat) (gs n c i : Nat) (cur : Array Value) (X Y V : List Value) (g : Nat) (hi : i < n) (hX : X.length = i * 4) (hY : Y.length = (n - i) * 4) (hV : V.length = 4) (hgs : w.heap[gs]? = some (.cells cur 26 (0, 0))) (hcs : cur.size = c * 4) (htk : cur.toList.take (n * 4) = X ++ Y)
    (hnc : n ≤ c) (hroom : c < n + 1) (hcm : n < 1000000000000) (hg : w.heap[g]? = some (.cells V.toArray 26 (0, 0))) (h1 : ∀ u ∈ V, u.oneCell' = true) (h2 : ∀ u ∈ Y, u.oneCell' = true) :
    Calls Tryz.prog 24 #[.slice (some ⟨gs, 0, none⟩) n c, .int .i64 i, .slice (some ⟨g, 0, none⟩) 1 1] w fun e w' => ∃ c', e = .returned (.slice (some ⟨w.heap.size, 0, none⟩) (n + 1) c') ∧ n + 1 ≤ c' ∧ c' ≤ maxLen ∧ ∃ cur' : Array Value, w'.heap[w.heap.size]? = some (.cells cur' 26 (0, 0)) ∧ cur'.size = c' * 4 ∧ cur'.toList.take ((n + 1) * 4) = X ++ V ++ Y ∧ w.grownBy w' none := by
  obtain ⟨i0, hi0, hzz⟩ := Option.map_eq_some_iff.1 info26
  simp only [Prod.mk.injEq] at hzz
  obtain ⟨hz0, hz1, hz2⟩ := hzz
  obtain ⟨z, hz⟩ : ∃ z, i0.zero = some z := ⟨_, hz0⟩
  have hzs : z.cells.size = 4 := by
    rw [hz0] at hz
    obtain rfl := Option.some.inj hz
    rfl
  have hcell : ∀ k j u, (cur.toList.take (n * 4))[k + j]? = some u → w.cell? ((⟨gs, k, none⟩ : Addr).add j) = some u := fun k j u hj => by
    rw [Addr.add_lit, cell_of_row w gs _ cur 26 (0, 0) hgs]
    rw [List.getElem?_take] at hj
    split at hj
    · simpa using hj
    · cases hj
  have hold : (Builtin.firstCells i0.size i (.slice (some ⟨gs, 0, none⟩) i c)).run Tryz.prog w.drew = .ok X.toArray w.drew :=
    run_firstCells_some w.drew i0.size i ⟨gs, 0, none⟩ i c X (by rw [hX, hz1]) (fun j u hj => hcell 0 j u (by rw [Nat.zero_add, htk, List.getElem?_append_left (List.getElem?_eq_some_iff.1 hj).1]; exact hj))
  have hkk : (n : Int) + 1 - (i : Int) = ((n + 1 - i : Nat) : Int) := by omega
  have hik : i + (n + 1 - i) = n + 1 := by omega
  have hby : (n + 1) * 32 ≤ 140737488355328 := by omega
  have hfit := growslice_fits hroom hby
  have hrz : ∀ ty, (Builtin.append_ #[29, 3] ty #[.slice (some ⟨gs, 0, none⟩) i c, .int .i64 ((n : Int) + 1 - (i : Int))]).run Tryz.prog w =
      .ok (.slice (some ⟨w.heap.size, 0, none⟩) (n + 1) (grownCap w (n + 1) c 26)) (w.drew.alloc (.cells (X.toArray ++ Builtin.zeroCells z.cells (n + 1 - i) ++ Builtin.zeroCells z.cells (grownCap w (n + 1) c 26 - (n + 1))) 26)) := fun ty => by
    have h := Lib.run_append_grow_zeros w 29 3 ty 26 i0 z .i64 .i64 Tryz.underlying29 Tryz.underlying3 hi0 hz (some ⟨gs, 0, none⟩) i c X hold (n + 1 - i) (by omega) (by omega) (by omega) (by omega) (by rw [hz2]; omega) (by rw [hz2, hik]; exact hfit)
    rw [hik] at h
    rw [hkk]
    exact h
  obtain ⟨G, hG⟩ : ∃ G, G = grownCap w (n + 1) c 26 := ⟨_, rfl⟩
  have hGn : n + 1 ≤ G := by rw [hG]; exact grownCap_ge w _ _ _
  have hGm : G ≤ maxLen := by rw [hG]; exact grownCap_le_maxLen w (n + 1) c 26 (by simp only [maxLen]; omega)
  have hG63 : G ≤ 9223372036854775807 := by simp only [maxLen] at hGm; omega
  obtain ⟨ROW, hROW⟩ : ∃ ROW : Array Value, ROW = X.toArray ++ Builtin.zeroCells z.cells (n + 1 - i) ++ Builtin.zeroCells z.cells (G - (n + 1)) := ⟨_, rfl⟩
  rw [← hG, ← hROW] at hrz
  have hRs : ROW.size = G * 4 := by
    rw [hROW]
    simp only [Array.size_append, List.size_toArray, size_zeroCells, hzs, hX]
    omega
  have hRt : ROW.toList.take (i * 4) = X := by
    rw [hROW, Array.toList_append, Array.toList_append, List.append_assoc, ← hX]
    exact List.take_left
  obtain ⟨W1, hW1⟩ : ∃ W1, W1 = w.drew.alloc (.cells ROW 26) := ⟨_, rfl⟩
  have hgr : w.grownBy W1 none := by
    rw [hW1]
    exact ⟨rfl, rfl, rfl, by simp, fun k hk _ => heap_alloc_old w.drew _ hk⟩
  have hN : W1.heap[w.heap.size]? = some (.cells ROW 26 (0, 0)) := by rw [hW1]; exact heap_alloc_new w.drew _
  have lt_of : ∀ {k : Nat} {o : Obj}, w.heap[k]? = some o → k < w.heap.size := fun h => (Array.getElem?_eq_some_iff.1 h).1
  have hgw : W1.heap[g]? = some (.cells V.toArray 26 (0, 0)) := (hgr.block g (lt_of hg) (by simp)).trans hg
  have hgsw : W1.heap[gs]? = some (.cells cur 26 (0, 0)) := (hgr.block gs (lt_of hgs) (by simp)).trans hgs
  have hgsn : gs ≠ w.heap.size := Nat.ne_of_lt (lt_of hgs)
  rw [← hW1] at hrz
  have hcpA : ∀ (W : World), W.heap = W1.heap → ∀ ty dc, (Builtin.copy_ #[29, 28] ty #[.slice (some ⟨w.heap.size, i * 4, none⟩) (n + 1 - i) dc, .slice (some ⟨g, 0, none⟩) 1 1]).run Tryz.prog W = .ok (goInt 1) (W.setRow w.heap.size (ROW.toList.take (i * 4) ++ V ++ ROW.toList.drop (i * 4 + V.length)).toArray) := fun W hW ty dc =>
    XMem.copy_run W 29 28 ty 26 i0 Tryz.underlying29 hi0 w.heap.size (i * 4) ROW 26 (by rw [hW]; exact hN) (n + 1 - i) dc ⟨g, 0, none⟩ 1 1 1 V (by show min _ _ = _; omega) (by rw [hV, hz1])
      (fun j u hj => by
        rw [Addr.add_lit, Nat.zero_add, cell_of_row W g j _ 26 (0, 0) (by rw [hW]; exact hgw)]
        simpa using hj) (by rw [hV, hRs]; omega) h1
  obtain ⟨R1, hR1⟩ : ∃ R1, R1 = (ROW.toList.take (i * 4) ++ V ++ ROW.toList.drop (i * 4 + V.length)).toArray := ⟨_, rfl⟩
  rw [← hR1] at hcpA
  have hR1s : R1.size = G * 4 := by
    rw [hR1, ← hRs]
    simp only [List.size_toArray, List.length_append, List.length_take, List.length_drop, Array.length_toList]
    omega
  have hR1t : R1.toList.take ((i + 1) * 4) = X ++ V := by
    rw [hR1, hRt, show (i + 1) * 4 = (X ++ V).length by rw [List.length_append]; omega]
    exact List.take_left
  clear hR1 hROW
  have hcpB : ∀ (W W2 : World), W2.heap = W1.heap → W.heap = (W2.setRow w.heap.size R1).heap → ∀ ty dc sc, (Builtin.copy_ #[29, 29] ty #[.slice (some ⟨w.heap.size, (i + 1) * 4, none⟩) (n - i) dc, .slice (some ⟨gs, i * 4, none⟩) (n - i) sc]).run Tryz.prog W = .ok (goInt ((n - i : Nat) : Int)) (W.setRow w.heap.size (R1.toList.take ((i + 1) * 4) ++ Y ++ R1.toList.drop ((i + 1) * 4 + Y.length)).toArray) := fun W W2 hW2 hW ty dc sc =>
    XMem.copy_run W 29 29 ty 26 i0 Tryz.underlying29 hi0 w.heap.size ((i + 1) * 4) R1 26 (by rw [hW]; exact setRow_heap W2 _ ROW R1 26 (0, 0) (by rw [hW2]; exact hN)) (n - i) dc ⟨gs, i * 4, none⟩ (n - i) sc (n - i) Y (by show min _ _ = _; omega) (by rw [hY, hz1])
      (fun j u hj => by
        have hb : W.heap[gs]? = some (.cells cur 26 (0, 0)) := by rw [hW, XMem.setRow_other _ _ _ _ hgsn, hW2]; exact hgsw
        rw [Addr.add_lit, cell_of_row W gs _ cur 26 (0, 0) hb]
        have hjl := (List.getElem?_eq_some_iff.1 hj).1
        have : (cur.toList.take (n * 4))[i * 4 + j]? = some u := by
          rw [htk, List.getElem?_append_right (by omega), hX]
          simpa using hj
        rw [List.getElem?_take] at this
        split at this
        · simpa using this
        · cases this) (by rw [hY, hR1s]; omega) h2
  have hend : ∃ cur' : Array Value, cur' = (R1.toList.take ((i + 1) * 4) ++ Y ++ R1.toList.drop ((i + 1) * 4 + Y.length)).toArray ∧ cur'.size = G * 4 ∧ cur'.toList.take ((n + 1) * 4) = X ++ V ++ Y := by
    refine ⟨_, rfl, ?_, ?_⟩
    · simp only [List.size_toArray, List.length_append, List.length_take, List.length_drop, Array.length_toList]
      omega
    · show List.take _ (_ ++ _ ++ _) = _
      rw [hR1t, show (n + 1) * 4 = (X ++ V ++ Y).length by simp only [List.length_append]; omega, List.take_left]
  obtain ⟨R2, hR2, hR2s, hR2t⟩ := hend
  rw [← hR2] at hcpB
  clear hR2 hR1t hRt hW1 hG hold hkk htk hcell hik hfit
  have mixed : Tryz.prog.follows Departure.mixedOrders = true := by kernel_rfl
  have hz1' : ¬ ((1 : Int) = 0) := by omega
  have hz2' : ¬ ((i : Int) = (n : Int)) := by omega
  have hz3' : (c : Int) < (n : Int) + 1 := by omega
  have hw1 : IntKind.i64.wrap ((i : Int) + 1) = (i : Int) + 1 := by rw [IntKind.wrap_i64]; omega
  have hb1 : (0 : Int) ≤ (i : Int) + 1 := by omega
  have hin : i ≤ n := by omega
  have htn : ((i : Int) + 1).toNat = i + 1 := by omega
  have hb3 : (i : Int) ≤ (n : Int) := by omega
  have hb4 : ¬ (c = i) := by omega
  have hGi : ¬ (G = i) := by omega
  have hGim : ¬ (G = i + 1) := by omega
  go_enter Tryz.func24, Tryz.ntmps24
  go_wp2_with (first
    | (at_builtin; refine XMem.wpList_run_append rfl _ _ 29 3 rfl _ _ rfl rfl (hrz _) ?_)
    | (at_builtin; refine XMem.wpList_copy _ rfl _ _ 29 28 rfl _ _ rfl rfl (hcpA _ rfl _ _) ?_))
  go_region_law_o (refine XMem.step_copy rfl _ _ 29 29 rfl (.slice (some ⟨w.heap.size, (i + 1) * 4, none⟩) (n - i) (G - (i + 1))) (.slice (some ⟨gs, i * 4, none⟩) (n - i) (c - i)) (by simp [Act.eval, Act.put]) (by simp [Act.eval, Act.put]) (hcpB (W1.setRow w.heap.size R1).drew W1 rfl rfl 3 (G - (i + 1)) (c - i)) ?_)
  go_wp2
  trace_state
  go_ret
  have hW2 : ((W1.setRow w.heap.size R1).setRow w.heap.size R2).heap[w.heap.size]? = some (.cells R2 26 (0, 0)) := setRow_heap _ _ R1 R2 26 (0, 0) (setRow_heap _ _ ROW R1 26 (0, 0) hN)
  refine ⟨G, rfl, hGn, hGm, R2, ?_, hR2s, hR2t, ?_⟩
  · exact hW2
  · refine ⟨hgr.os, hgr.tape, hgr.output, ?_, fun k hk _ => ?_⟩
    · show w.heap.size ≤ ((W1.setRow w.heap.size R1).setRow w.heap.size R2).heap.size
      rw [XMem.setRow_size, XMem.setRow_size]
      exact hgr.size
    · show ((W1.setRow w.heap.size R1).setRow w.heap.size R2).heap[k]? = _
      rw [XMem.setRow_other _ _ _ _ (Nat.ne_of_lt hk), XMem.setRow_other _ _ _ _ (Nat.ne_of_lt hk)]
      exact hgr.block k hk (by simp)
theorem insA.own (w : World) (base : Nat) (v : Value) (n i : Nat) (X Y V : List Value) (g : Nat) (hi : i ≤ n) (hX : X.length = i * 4) (hY : Y.length = (n - i) * 4) (hV : V.length = 4) (hown : w.ownsRow base 26 4 v n (X ++ Y)) (hb : base ≤ w.heap.size) (hg : w.heap[g]? = some (.cells V.toArray 26 (0, 0))) (hne : v.ownBlock ≠ some g)
    (h1 : ∀ u ∈ V, u.oneCell' = true) (h2 : ∀ u ∈ Y, u.oneCell' = true) (hn : n < 1000000000000) :
    Calls Tryz.prog 24 #[v, .int .i64 i, .slice (some ⟨g, 0, none⟩) 1 1] w fun e w' => ∃ v', e = .returned v' ∧ w'.ownsRow base 26 4 v' (n + 1) (X ++ V ++ Y) ∧ w.grownBy w' v.ownBlock ∧ (v'.ownBlock = v.ownBlock ∨ v'.ownBlock = some w.heap.size) := by
  rcases Nat.lt_or_ge i n with hlt | hge
  · rcases hown.2 with ⟨rfl, rfl⟩ | ⟨gs, c, cur, rfl, hbg, hgs, hnc, hcm, hcs, htk⟩
    · exact absurd hlt (Nat.not_lt_zero _)
    · have hcs' : cur.size = c * 4 := by simpa using hcs
      have htk' : cur.toList.take (n * 4) = X ++ Y := by simpa using htk
      rcases Nat.lt_or_ge c (n + 1) with hroom | hroom
      · refine (chart_Account_24.grow w base gs n c i cur X Y V g hlt hX hY hV hgs hcs' htk' hnc hroom hn hg h1 h2).mono ?_
        rintro e w' ⟨c', rfl, q1, q2, cur', q3, q4, q5, q6⟩
        refine ⟨_, rfl, ⟨?_, .inr ⟨_, c', cur', rfl, hb, q3, q1, q2, by simpa using q4, by simpa using q5⟩⟩, ⟨q6.os, q6.tape, q6.output, q6.size, fun k hk _ => q6.block k hk (by simp)⟩, .inr rfl⟩
        simp only [List.length_append, hX, hY, hV]
        omega
      · refine (chart_Account_24.shift w base gs n c i cur X Y V g hlt hX hY hV hgs hcs' htk' hroom hcm hg (fun e => hne (by rw [e]; rfl)) h1 h2).mono ?_
        rintro e w' ⟨rfl, cur', q3, q4, q5, q6⟩
        refine ⟨_, rfl, ⟨?_, .inr ⟨_, c, cur', rfl, hbg, q3, hroom, hcm, by simpa using q4, by simpa using q5⟩⟩, q6, .inl rfl⟩
        simp only [List.length_append, hX, hY, hV]
        omega
  · obtain rfl : i = n := Nat.le_antisymm hi hge
    have hY0 : Y = [] := List.eq_nil_of_length_eq_zero (by rw [hY]; simp)
    subst hY0
    rw [List.append_nil] at hown
    refine (chart_Account_24.end_ w base v i X V g hV hown hb hg h1 hn).mono ?_
    rintro e w' ⟨v', rfl, q1, q2, q3⟩
    exact ⟨v', rfl, by rw [List.append_nil]; exact q1, q2, q3⟩

/-! ### chart_Chart_With: function 11 -/
def chart_Chart_With.f (k : Nat) (l0 : List S26) (a1_0 : Int) (a1_1 : ByteArray) (a1_2 a1_3 : Int) : Option (List S26) :=
  (chart_Chart_Find.f k l0 a1_0).bind fun t => if l0.length < 1000000000 then (if 0 ≤ t.1 then (if t.2 = true then (if t.1 < (l0.length : Int) then some (l0.set t.1.toNat ⟨a1_0, a1_1, a1_2, a1_3⟩) else none) else (if t.1 ≤ (l0.length : Int) then some (l0.take t.1.toNat ++ [⟨a1_0, a1_1, a1_2, a1_3⟩] ++ l0.drop t.1.toNat) else none)) else none) else none
theorem chart_Chart_With.mono : ∀ a0 a1 a2 a3 a4 k, LeO (chart_Chart_With.f k a0 a1 a2 a3 a4) (chart_Chart_With.f (k + 1) a0 a1 a2 a3 a4) := by
  intro a0 a1 a2 a3 a4 k
  unfold chart_Chart_With.f
  exact LeO.bind (chart_Chart_Find.mono _ _ _) (fun _ => LeO.refl _)
set_option maxHeartbeats 8000000 in
set_option maxRecDepth 100000 in
theorem chart_Chart_With.calls (k : Nat) (A0 : Option Addr) (c0 : Nat) (l0 : List S26) (a1_0 : Int) (a1_1 : ByteArray) (a1_2 a1_3 : Int) (r : List S26) (w : World) (hr0 : Kd.C k26 w A0 l0.length l0) (hc0 : l0.length ≤ c0) (h : chart_Chart_With.f k l0 a1_0 a1_1 a1_2 a1_3 = some r) :
    Calls Tryz.prog 11 #[.slice A0 l0.length c0, .agg #[.int .u32 a1_0, .string a1_1, .int .u8 a1_2, .int .u32 a1_3]] w fun e w' => ∃ v0_ : Value, e = .returned (v0_) ∧ Kd.R k26 26 w' w.heap.size (fun _ => True) v0_ r ∧ Below w.heap.size w w' := by
  have hu := Tryz.underlying26
  have HR0 := Aside0.mk hr0
  have HC0 := Aside0.mk hc0
  clear hr0 hc0
  have HB := Aside0.mk (Below.refl w.heap.size w)
  unfold chart_Chart_With.f at h
  obtain ⟨⟨ti, tok⟩, A10, H⟩ := Option.bind_eq_some_iff.mp h
  have A1 := Aside0.mk A10
  clear h A10
  by_cases hlen : l0.length < 1000000000
  case neg => rw [if_neg hlen] at H; cases H
  rw [if_pos hlen] at H
  by_cases h0 : 0 ≤ ti
  case neg => rw [if_neg h0] at H; cases H
  rw [if_pos h0] at H
  obtain ⟨q, rfl⟩ := Int.eq_ofNat_of_zero_le h0
  obtain ⟨i0, hi0, hzz⟩ := Option.map_eq_some_iff.1 info26
  simp only [Prod.mk.injEq] at hzz
  obtain ⟨hz0, hz1, hz2⟩ := hzz
  -- the row that the copy leaves
  have hcopy : ∀ (W : World) (v1 : Value) (z0 : S26), Below w.heap.size w W → Kd.R k26 26 W w.heap.size (fun _ => True) v1 (List.replicate l0.length z0) → ∀ ty, ∃ W', (Builtin.copy_ #[29, 29] ty #[v1, .slice A0 l0.length c0]).run Tryz.prog W = .ok (goInt l0.length) W' ∧ Kd.R k26 26 W' w.heap.size (fun _ => True) v1 l0 ∧ W.grownBy W' v1.ownBlock := by
    intro W v1 z0 hb HR ty
    have hown := flat26.own HR
    rw [List.length_replicate] at hown
    rcases Nat.eq_zero_or_pos l0.length with hz | hp
    · obtain ⟨A, c, e1, _⟩ := Kd.R_reads HR
      have hl0 : l0 = [] := List.length_eq_zero_iff.1 hz
      rw [List.length_replicate] at e1
      refine ⟨W, ?_, by rw [hl0] at HR ⊢; exact HR, ⟨rfl, rfl, rfl, Nat.le_refl _, fun _ _ _ => rfl⟩⟩
      rw [e1, XMem.copy_none W _ _ ty 26 i0 Tryz.underlying29 hi0 _ _ _ _ _ _ (by show min _ _ = _; omega), hz]
      rfl
    · obtain ⟨a, rfl, hcell⟩ := flat26.read HR0.out hp
      rcases hown.2 with ⟨_, hn⟩ | ⟨g, cap, cur, rfl, hbg, hg, hnc, hcm, hcs, htk⟩
      · omega
      · have hsz : k26.sz = 4 := rfl
        rw [hsz] at hcs htk
        have hlen4 : (l0.flatMap enc26).length = l0.length * 4 := XMem.flat_len flat26 w l0
        have hr := XMem.copy_run (P := Tryz.prog) W 29 29 ty 26 i0 Tryz.underlying29 hi0 g 0 cur 26 hg l0.length cap a l0.length c0 l0.length (l0.flatMap enc26) (by show min _ _ = _; omega) (by rw [hlen4, hz1]) (fun j v hj => pw_cell_below hb (hcell j v hj)) (by rw [hlen4, hcs]; omega) (XMem.flat_one flat26 w l0)
        refine ⟨_, hr, flat26.make (XMem.ownsRow_setRow hbg hg hnc hcm _ ?_ _ hlen4 ?_) (fun _ _ => trivial), XMem.setRow_grown _ _ _⟩
        · simp only [List.size_toArray, List.length_append, List.length_take, List.length_drop, Array.length_toList, hsz]
          omega
        · rw [hsz, ← hlen4, List.take_zero, List.nil_append]
          exact List.take_left
  go_enter Tryz.func11, Tryz.ntmps11
  go_wp2_with (first
    | ((with_reducible refine gate_dst (N := 3) rfl ?_); refine box_event ?hg (N := 3) ?hd (cs := #[.int .u32 a1_0, .string a1_1, .int .u8 a1_2, .int .u32 a1_3]) (t := 26) ?hr ?_; (case hd => rfl); (case hg => rfl); (case hr => first | (go_simp; done) | (go_simp; rfl)); intro gb hg w4 hbox hb; have n0_ := Aside0.mk (below_step HB.out hb); have BK := Aside0.mk hbox; have GE := Aside0.mk ((by rw [hg]; exact below_size HB.out) : w.heap.size ≤ gb); clear HB hb hbox hg; have HB := n0_; clear n0_; have hcz0 : w4.cell? ⟨gb, 0, none⟩ = some (.int .u32 a1_0) := (blk_cell BK.out 0).trans rfl; have hcz1 : w4.cell? ⟨gb, 1, none⟩ = some (.string a1_1) := (blk_cell BK.out 1).trans rfl; have hcz2 : w4.cell? ⟨gb, 2, none⟩ = some (.int .u8 a1_2) := (blk_cell BK.out 2).trans rfl; have hcz3 : w4.cell? ⟨gb, 3, none⟩ = some (.int .u32 a1_3) := (blk_cell BK.out 3).trans rfl)
    | (go_at_call 23; (with_reducible refine (chart_Chart_Find.calls k _ _ l0 a1_0 q tok _ ?side1 ?side2 A1.out).mono ?_); (case side1 => repeat (first | exact Kd.C_below HR0.out HB.out | (with_reducible refine Kd.C_alloc ?_ _) | (with_reducible refine Kd.C_drewN ?_ _) | (with_reducible refine Kd.C_drew ?_))); (case side2 => exact HC0.out); rintro e w5 ⟨rfl, hb⟩; have n0_ := Aside0.mk (below_step (by repeat (first | exact HB.out | apply below_alloc | apply pw_below_drewN | apply below_drew1)) hb); have n1_ := Aside0.mk (blk_below (by (with_reducible repeat (first | refine blk_drewN ?_ _ | refine blk_drew ?_ | refine blk_alloc ?_ _)); exact BK.out) hb); clear HB hb BK hcz0 hcz1 hcz2 hcz3; have HB := n0_; have BK := n1_; clear n0_ n1_; have hcz0 : w5.cell? ⟨gb, 0, none⟩ = some (.int .u32 a1_0) := (blk_cell BK.out 0).trans rfl; have hcz1 : w5.cell? ⟨gb, 1, none⟩ = some (.string a1_1) := (blk_cell BK.out 1).trans rfl; have hcz2 : w5.cell? ⟨gb, 2, none⟩ = some (.int .u8 a1_2) := (blk_cell BK.out 2).trans rfl; have hcz3 : w5.cell? ⟨gb, 3, none⟩ = some (.int .u32 a1_3) := (blk_cell BK.out 3).trans rfl)
    | ((with_reducible refine gate_dst (N := 17) rfl ?_); refine Kd.R_make k26 (w0 := w) w.heap.size 26 rfl rfl 29 (.tmp 16) (.tmp 16) rfl (l0.length : Int) ?e1 ?e2 Tryz.underlying29 _ 32 info26 rfl (by decide) (by decide) ⟨0, ⟨#[]⟩, 0, 0⟩ (ok := fun _ => True) (okp := fun _ => True) ?mz (fun _ h => h) trivial (by omega) ?by_ HB.out (below_size HB.out) ?_; (case e1 => rfl); (case e2 => rfl); (case mz => exact k26_mkM _ _ _ ⟨0, ⟨#[]⟩, 0, 0⟩); (case by_ => rw [Int.toNat_natCast]; omega); intro v1 w6 ho hb hg hnew; rw [Int.toNat_natCast] at ho; obtain ⟨w7, hcr, hro, hcg⟩ := hcopy w6 v1 _ hb ho 3; have BK6 := (hg.block gb (blk_lt BK.out) (by simp)).trans BK.out; have hne : v1.ownBlock ≠ some gb := (by obtain ⟨b, hb1, hb2⟩ := hnew; rw [hb1]; intro e; injection e with e; have := blk_lt BK.out; omega); have n1_ := Aside0.mk ((hcg.block gb (blk_lt BK6) (fun e => hne e.symm)).trans BK6); have hb7 := Below.grown hb hcg (below_size hb) (fun k hk => (by obtain ⟨b, hb1, hb2⟩ := hnew; rw [hb1] at hk; injection hk with hk; have := below_size HB.out; omega)); have n0_ := Aside0.mk hb7; clear HB BK hcz0 hcz1 hcz2 hcz3; have HB := n0_; have BK := n1_; have HO := Aside0.mk hro; have HNE := Aside0.mk hne; clear n0_ n1_ hb hb7 hg hnew hcg ho hro hne BK6; have hcz0 : w7.cell? ⟨gb, 0, none⟩ = some (.int .u32 a1_0) := (blk_cell BK.out 0).trans rfl; have hcz1 : w7.cell? ⟨gb, 1, none⟩ = some (.string a1_1) := (blk_cell BK.out 1).trans rfl; have hcz2 : w7.cell? ⟨gb, 2, none⟩ = some (.int .u8 a1_2) := (blk_cell BK.out 2).trans rfl; have hcz3 : w7.cell? ⟨gb, 3, none⟩ = some (.int .u32 a1_3) := (blk_cell BK.out 3).trans rfl)
    | (at_builtin; refine XMem.wpList_copy _ rfl _ _ 29 29 rfl _ _ rfl rfl hcr ?_))
  · -- the account's place is taken by the new one
    have htok : tok = true := by assumption
    subst htok
    rw [if_pos rfl] at H
    by_cases hq : (q : Int) < (l0.length : Int)
    case neg => rw [if_neg hq] at H; cases H
    rw [if_pos hq] at H
    obtain rfl := Option.some.inj H
    have hown := flat26.own HO.out
    have HNE1 := HNE.out
    rcases hown.2 with ⟨_, hn⟩ | ⟨g, cap, cur, rfl, hbg, hg, hnc, hcm, hcs, htk⟩
    · omega
    have d1 : decide ((q : Int) < (l0.length : Int)) = true := decide_eq_true hq
    have d2 : decide (q < l0.length) = true := decide_eq_true (by omega)
    have hsz : k26.sz = 4 := rfl
    rw [hsz] at hcs htk
    have hl4 : (l0.flatMap enc26).length = l0.length * 4 := XMem.flat_len flat26 w l0
    have hst := XMem.storeAt_run (P := Tryz.prog) w7 g (q * 4) cur 26 hg 26 #[.int .u32 a1_0, .string a1_1, .int .u8 a1_2, .int .u32 a1_3] (by rw [hi0]; simp [hz1]) (by show q * 4 + 4 ≤ _; omega) (by intro u hu; simp at hu; rcases hu with rfl | rfl | rfl | rfl <;> rfl)
    go_wp2_with ((with_reducible refine gate_store rfl ?_); refine XMem.wpList_store rfl rfl rfl (v := .pointer (some ⟨g, q * 4, none⟩)) ?e1 ?e2 hst ?_; (case e1 => first | rfl | (go_simp; done)); (case e2 => first | rfl | (go_simp; done)))
    go_ret
    refine ⟨_, rfl, ?_, Below.grown HB.out (XMem.setRow_grown _ _ _) (below_size HB.out) (fun k hk => by injection hk with hk; omega)⟩
    refine flat26.make ?_ (fun _ _ => trivial)
    rw [List.length_set]
    refine XMem.ownsRow_setRow hbg hg hnc hcm _ ?_ _ (by rw [XMem.flat_len flat26 w, List.length_set]) ?_
    · simp only [List.size_toArray, List.length_append, List.length_take, List.length_drop, Array.length_toList, List.size_toArray, List.length_cons, List.length_nil, hsz]
      omega
    · rw [hsz]
      exact XMem.set_cells flat26 w l0 q ⟨a1_0, a1_1, a1_2, a1_3⟩ (by omega) cur.toList htk
  · have htok : tok = false := by assumption
    subst htok
    rw [if_neg (by simp)] at H
    by_cases hq : (q : Int) ≤ (l0.length : Int)
    case neg => rw [if_neg hq] at H; cases H
    rw [if_pos hq] at H
    obtain rfl := Option.some.inj H
    have hown := flat26.own HO.out
    have hbw := below_size HB.out
    have hl4 : ∀ xs : List S26, (xs.flatMap enc26).length = xs.length * 4 := XMem.flat_len flat26 w
    refine (insA.own _ w.heap.size v1 l0.length q ((l0.take q).flatMap enc26) ((l0.drop q).flatMap enc26) [.int .u32 a1_0, .string a1_1, .int .u8 a1_2, .int .u32 a1_3] w7.heap.size (by omega) (by rw [hl4, List.length_take]; omega) (by rw [hl4, List.length_drop]) rfl ?_ ?_ (heap_alloc_new w7 _) ?_ ?_ ?_ (by omega)).mono ?_
    · rw [← List.flatMap_append, List.take_append_drop]
      exact hown.alloc _
    · simp; omega
    · intro e
      have := hown.lt _ e
      omega
    · intro u hu; simp at hu; rcases hu with rfl | rfl | rfl | rfl <;> rfl
    · exact XMem.flat_one flat26 w _
    rintro e w8 ⟨v', rfl, q1, q2, q3⟩
    go_wp2
    go_ret
    have hb8 : Below w.heap.size w w8 := Below.grown (below_alloc HB.out _) q2 (by simp; omega) (fun k hk => (hown.lt k hk).1)
    refine ⟨_, rfl, flat26.make ?_ (fun _ _ => trivial), hb8⟩
    rw [Int.toNat_natCast, List.flatMap_append, List.flatMap_append]
    have hl : (l0.take q ++ [(⟨a1_0, a1_1, a1_2, a1_3⟩ : S26)] ++ l0.drop q).length = l0.length + 1 := by
      simp only [List.length_append, List.length_take, List.length_drop, List.length_cons, List.length_nil]
      omega
    rw [hl]
    exact q1


/-! ### chart_Account_25: function 25 -/
def chart_Account_25.f (l0 : List S26) : Option (List S26) := if l0.length < 1000000000000 then some l0 else none
theorem chart_Account_25.eqd {P : Program} (w : World) (d : Nat) (t e : TypeId) (a : Option Addr) (n c : Nat) (h : P.underlying t = some (.slice e)) :
    (Op.equalIn (d + 1) t (.slice a n c) (.slice none 0 0)).run P w = .ok a.isNone w := by
  cases a <;> simp [Op.equalIn, run_underlying h]
theorem chart_Account_25.eqg {P : Program} (w : World) (t e : TypeId) (a : Option Addr) (n c : Nat) (h : P.underlying t = some (.slice e)) :
    (binOp .eql t (.slice a n c) (.slice none 0 0)).run P w = .ok (.bool a.isNone) w := by
  simp only [binOp]
  simp [Op.equal, Op.maxDepth, chart_Account_25.eqd w 9999 t e a n c h]
theorem chart_Account_25.eqn (w : World) (a : Option Addr) (n c : Nat) : (binOp .eql 29 (.slice a n c) (.slice none 0 0)).run Tryz.prog w = .ok (.bool a.isNone) w := chart_Account_25.eqg w 29 26 a n c Tryz.underlying29
attribute [local go_sem] chart_Account_25.eqn
theorem chart_Account_25.calls (A0 : Option Addr) (c0 : Nat) (l0 : List S26) (r : List S26) (w : World) (hr0 : Kd.C k26 w A0 l0.length l0) (hc0 : l0.length ≤ c0) (h : chart_Account_25.f l0 = some r) :
    Calls Tryz.prog 25 #[.slice A0 l0.length c0] w fun e w' => ∃ v0_ : Value, e = .returned (v0_) ∧ Kd.R k26 26 w' w.heap.size (fun _ => True) v0_ r ∧ Below w.heap.size w w' := by
  have hu := Tryz.underlying29
  unfold chart_Account_25.f at h
  split at h
  case isFalse => cases h
  rename_i hlim
  obtain rfl := Option.some.inj h
  have HR0 := Aside0.mk hr0
  clear hr0 h
  rcases A0 with _ | ad
  · have hl0 : l0 = [] := by
      rcases Nat.eq_zero_or_pos l0.length with h0 | h0
      · exact List.length_eq_zero_iff.1 h0
      · obtain ⟨ad, h, _⟩ := HR0.out.2.2 h0
        cases h
    subst hl0
    go_enter Tryz.func25, Tryz.ntmps25
    go_wp2
    go_ret
    exact ⟨_, rfl, Kd.R_nil _ _ _ _ _, Below.refl _ _⟩
  · go_enter Tryz.func25, Tryz.ntmps25
    go_wp2_with (first
      | ((with_reducible refine gate_dst (N := 5) rfl ?_); refine Kd.R_lit k26 (w0 := w) w.heap.size 26 ?hg (N := 5) ?hd (xs := ([] : List S26)) (inner := []) (ok := fun _ => True) (okp := fun _ => True) ?hr ?hp (fun _ hk => hk) trivial (Below.refl _ _) (Nat.le_refl _) (by simp) ?_; (case hd => rfl); (case hg => rfl); (case hr => first | (go_simp; done) | (go_simp; rfl)); (case hp => exact Reps.none _ _); intro v5 w1 ho5 hb5 hg_ hnew_; have HO5 := Aside0.mk ho5; have HB := Aside0.mk hb5; clear ho5 hb5 hg_ hnew_; obtain ⟨Ao5, co5, eo5⟩ := Kd.R_slice HO5.out; subst eo5)
      | ((with_reducible refine gate_builtin (b := .append) (xs := #[.tmp 5, .tmp 6]) rfl ?_); at_builtin; refine Kd.R_append_rows k26 (Rr := k26.K w) (w0 := w) w.heap.size rfl (.tmp 5) (.tmp 6) 29 26 (.agg #[(.int .u32 0), (.string ⟨#[]⟩), (.int .u8 0), (.int .u32 0)]) 32 rfl Tryz.underlying29 info26 rfl (by decide) (by omega) (.slice Ao5 ([] : List S26).length co5) [] l0 (some ad) l0.length c0 (fun _ => True) (fun _ => False) rfl rfl ?aO ?aR ?aK (fun _ h => h.elim) (fun _ _ => trivial) ?aB ?aS ?aL ?_; (case aO => exact HO5.out); (case aR => exact ReadsRow.imp_ HR0.out HB.out (fun _ _ h => h)); (case aK => intro x cs hx; obtain rfl := k26_open hx; exact k26_mkM _ _ _ x); (case aB => exact HB.out); (case aS => exact below_size HB.out); (case aL => simp; omega); intro v7 w2 ho7 hb7 hg_ hnew_))
    go_ret
    exact ⟨_, rfl, ho7, hb7⟩


/-! ### chart_Chart_Moved: function 12 -/
def chart_Chart_Moved.l0 : Nat → Int → Int → List (S26) → Int → Int → Option ((List (S26)))
 | 0, _, _, _, _, _ => none
 | k + 1, x1, x2, x7, x12, x13 => if x13 < x12 then (if 0 ≤ x13 then (if x13 < (x7.length : Int) then (if ((rd_T26 x7 x13).f3) = x1 then (chart_Chart_Moved.l0 k x1 x2 (x7.set (x13 : Int).toNat (⟨(rd_T26 x7 x13).f0, (rd_T26 x7 x13).f1, (rd_T26 x7 x13).f2, x2⟩ : S26)) x12 (wrap64 (x13 + 1))) else (chart_Chart_Moved.l0 k x1 x2 x7 x12 (wrap64 (x13 + 1)))) else (none)) else (none)) else (some x7)
def chart_Chart_Moved.f (k : Nat) (l0 : List (S26)) (a1 : Int) (a2 : Int) : Option ((List (S26))) := (chart_Account_25.f l0).bind fun t282 => (chart_Chart_Moved.l0 k a1 a2 t282 (t282.length : Int) 0)
theorem chart_Chart_Moved.mono_l : ∀ k, (∀ y0 y1 y2 y3 y4, LeO (chart_Chart_Moved.l0 k y0 y1 y2 y3 y4) (chart_Chart_Moved.l0 (k + 1) y0 y1 y2 y3 y4))
 | 0 => fun _ _ _ _ _ r h => by simp [chart_Chart_Moved.l0] at h
 | k + 1 => by
  have ih0 := chart_Chart_Moved.mono_l k
  ·intro y0 y1 y2 y3 y4
   unfold chart_Chart_Moved.l0
   repeat' first
   | (with_reducible exact ih0 _ _ _ _ _)
   | (with_reducible exact LeO.refl _)
   | (with_reducible exact LeO.none _)
   | (with_reducible refine LeO.ite ?_ ?_)
   | (with_reducible refine LeO.bind ?_ (fun _ => ?_))
   | exact ih0 _ _ _ _ _
   | exact LeO.none _
   | refine LeO.ite ?_ ?_
   | refine LeO.bind ?_ (fun _ => ?_)
theorem chart_Chart_Moved.mono : ∀ a0 a1 a2 k, LeO (chart_Chart_Moved.f k a0 a1 a2) (chart_Chart_Moved.f (k + 1) a0 a1 a2) := by
 intro a0 a1 a2 k
 have ih0 := chart_Chart_Moved.mono_l k
 unfold chart_Chart_Moved.f
 repeat' first
   | (with_reducible exact ih0 _ _ _ _ _)
   | (with_reducible exact LeO.refl _)
   | (with_reducible exact LeO.none _)
   | (with_reducible refine LeO.ite ?_ ?_)
   | (with_reducible refine LeO.bind ?_ (fun _ => ?_))
   | exact ih0 _ _ _ _ _
   | exact LeO.none _
   | refine LeO.ite ?_ ?_
   | refine LeO.bind ?_ (fun _ => ?_)
set_option maxHeartbeats 8000000 in
set_option maxRecDepth 100000 in
theorem chart_Chart_Moved.calls (k : Nat) (A0 : Option Addr) (c0 : Nat) (l0 : List (S26)) (a1 : Int) (a2 : Int) (r : List (S26)) (w : World) (hr0 : Kd.C k26 w A0 l0.length l0) (hc0 : l0.length ≤ c0) (h : chart_Chart_Moved.f k l0 a1 a2 = some r) :
  Calls Tryz.prog 12 #[.slice A0 l0.length c0, .int .u32 a1, .int .u32 a2] w fun e w' => ∃ v0_ : Value, e = .returned (v0_) ∧ Kd.R k26 26 w' w.heap.size (fun _ => True) v0_ r ∧ Below w.heap.size w w' := by
 have HR0 := Aside0.mk hr0
 have HC0 := Aside0.mk hc0
 clear hr0 hc0
 have HB := Aside0.mk (Below.refl w.heap.size w)
 have H : ((chart_Account_25.f l0).bind fun t282 => (chart_Chart_Moved.l0 k a1 a2 t282 (t282.length : Int) 0)) = some r := h
 clear h
 replace H := Option.bind_eq_some_iff.mp H
 obtain ⟨t282, A40, H⟩ := H
 replace H : (chart_Chart_Moved.l0 k a1 a2 t282 (t282.length : Int) 0) = some r := H
 have A4 := Aside0.mk A40
 clear A40
 have H' := Aside0.mk H
 clear H
 go_enter Tryz.func12, Tryz.ntmps12
 go_wp2_with (first | ((with_reducible refine gate_callee (f := 25) rfl ?_); refine goesL_ (some 10) rfl rfl Tryz.func25 (by kernel_rfl) rfl #[.slice A0 l0.length c0] rfl (by (try simp only [List.map_toArray, List.map_cons, List.map_nil]); first | done | rfl | (simp only [List.length_drop, List.length_take]; rfl)) ?_; (with_reducible refine (chart_Account_25.calls _ _ l0 t282 _ ?side1 ?side2 A4.out).mono ?_); (case side1 => repeat (first | exact HR0.out | (with_reducible refine Kd.C_alloc ?_ _) | (with_reducible refine Kd.C_drewN ?_ _) | (with_reducible refine Kd.C_drew ?_))); (case side2 => exact HC0.out); rintro e w5 ⟨v283, rfl, ho0, hb⟩; refine ⟨_, rfl, ?_⟩; have n0_ := Aside0.mk (Kd.R_lower ho0 (below_size (by repeat (first | (with_reducible first | exact HB.out | apply below_alloc | apply pw_below_drewN | apply below_drew1) | exact HB.out)))); have n1_ := Aside0.mk (below_step (by repeat (first | (with_reducible first | exact HB.out | apply below_alloc | apply pw_below_drewN | apply below_drew1) | exact HB.out)) hb); clear HB; have HO284 := n0_; have HB := n1_; clear n0_ n1_; (try clear hb); (try clear hb2); (try clear hk); (try clear hi); (try clear ho0); obtain ⟨Ao6, co6, eo6⟩ := Kd.R_slice HO284.out; subst eo6))
 go_loopg [13] k (fun kq v13 w' => ∃ (x7_1 : List (S26)) (x13_1 : Int), v13 = .int .i64 x13_1 ∧ Aside0 (chart_Chart_Moved.l0 kq a1 a2 x7_1 (t282.length : Int) x13_1 = some r) ∧ Aside0 (kq ≤ k) ∧ Aside0 (Kd.R k26 26 w' w.heap.size (fun _ => True) (.slice Ao6 t282.length co6) x7_1) ∧ Aside0 (Below w.heap.size w w'))
 case atStart => exact ⟨(t282), (0), (by first | rfl | (simp; done) | (simp [*]; done)), H', ⟨Nat.le_refl _⟩, ⟨by (with_reducible repeat (first | apply Kd.R_alloc | apply Kd.R_drewN | apply Kd.R_drew)); exact HO284.out⟩, ⟨by repeat (first | (with_reducible first | exact HB.out | apply below_alloc | apply pw_below_drewN | apply below_drew1) | exact HB.out)⟩⟩
 case round =>
  clear H'
  try clear c1
  try clear c2
  try clear p2
  obtain ⟨x7_1, x13_1, rfl, HA, HK1, HO_7, HB⟩ := hrel
  have hl7_1 := (Kd.R_reads' HO_7.out).1
  rw [hl7_1] at HO_7
  (try simp only [hl7_1])
  cases gk with
  | zero => exact absurd HA.out (by simp [chart_Chart_Moved.l0])
  | succ k1 =>
   have H := HA.out
   clear HA
   simp only [chart_Chart_Moved.l0] at H
   by_cases c7 : x13_1 < (t282.length : Int)
   ·rw [if_pos c7] at H
    have c7b0 : decide (x13_1 < (t282.length : Int)) = true := decide_eq_true c7
    clear c7
    by_cases c8 : 0 ≤ x13_1
    ·rw [if_pos c8] at H
     have c8b0 : decide (0 ≤ x13_1) = true := decide_eq_true c8
     clear c8
     by_cases c9 : x13_1 < (x7_1.length : Int)
     ·rw [if_pos c9] at H
      have c9b0 : decide (x13_1 < (x7_1.length : Int)) = true := decide_eq_true c9
      clear c9
      by_cases c10 : ((rd_T26 x7_1 x13_1).f3) = a1
      ·rw [if_pos c10] at H
       have c10b0 : (((rd_T26 x7_1 x13_1).f3) == a1) = true := beq_iff_eq.mpr c10
       have c10b1 : (((rd_T26 x7_1 x13_1).f3) != a1) = false := bne_eq_false_iff_eq.mpr c10
       clear c10
       obtain ⟨y286, hy286⟩ : ∃ y_ : List (S26), y_ = (x7_1.set (x13_1 : Int).toNat (⟨(rd_T26 x7_1 x13_1).f0, (rd_T26 x7_1 x13_1).f1, (rd_T26 x7_1 x13_1).f2, a2⟩ : S26)) := ⟨_, rfl⟩
       replace H : (chart_Chart_Moved.l0 k1 a1 a2 y286 (t282.length : Int) (wrap64 (x13_1 + 1))) = some r := by first | (rw [hy286]; with_reducible exact H) | (have H2_ := (Option.bind_some _ _).symm.trans H; rw [hy286]; with_reducible exact H2_) | (have H2_ := (Option.bind_some _ _).symm.trans H; with_reducible exact H2_) | with_reducible exact H | (rw [hy286]; exact H) | exact H
       have Ny286 := Aside0.mk hy286
       clear hy286
       have H' := Aside0.mk H
       clear H
       have p285 : 0 ≤ (x13_1 : Int) := of_decide_eq_true (by first | (with_reducible assumption) | assumption)
       have q285 : x13_1 < (x7_1.length : Int) := of_decide_eq_true (by first | (with_reducible assumption) | assumption)
       obtain ⟨ad285, e285, hx285_0, hx285_1, hx285_2, hx285_3⟩ := at_T26 (Kd.R_reads' HO_7.out).2.2 x13_1 p285 q285
       cases e285
       replace p285 := eq_true p285
       replace q285 := eq_true q285
       have p11 : 0 ≤ (x13_1 : Int) := of_decide_eq_true (by first | (with_reducible assumption) | assumption)
       have q11 : (x13_1 : Int) < ((x7_1.length : Int) : Int) := of_decide_eq_true (by first | (with_reducible assumption) | assumption)
       obtain ⟨go11, co11, eo11, gb11, gl11, cl11, HG11⟩ := Kd.R_form HO_7.out (by omega)
       (first | cases eo11 | (injection eo11 with ea_ en_ ec_; (first | subst ea_ | (injection ea_ with ea_; subst ea_)); subst ec_; clear en_))
       have GB11 := Aside0.mk gb11
       have GG11 := Aside0.mk HG11
       clear gb11 gl11 HG11
       (first | simp only [add_plain] at hx285_0 | skip)
       (first | simp only [add_plain] at hx285_1 | skip)
       (first | simp only [add_plain] at hx285_2 | skip)
       (first | simp only [add_plain] at hx285_3 | skip)
       obtain ⟨ce11, hcl11, hM11, hcc11, hfr11⟩ := Kd.R_elem HO_7.out z26 (x13_1 : Int) p11 q11
       obtain rfl := k26_openM hM11
       have hx11_0 : wr.cell? ⟨go11, (x13_1 : Int).toNat * 4, none⟩ = some (.int .u32 ((rd_T26 x7_1 x13_1).f0)) := hcc11 0 _ rfl
       have hx11_1 : wr.cell? ⟨go11, (x13_1 : Int).toNat * 4 + 1, none⟩ = some (.string ((rd_T26 x7_1 x13_1).f1)) := hcc11 1 _ rfl
       have hx11_2 : wr.cell? ⟨go11, (x13_1 : Int).toNat * 4 + 2, none⟩ = some (.int .u8 ((rd_T26 x7_1 x13_1).f2)) := hcc11 2 _ rfl
       have hx11_3 : wr.cell? ⟨go11, (x13_1 : Int).toNat * 4 + 3, none⟩ = some (.int .u32 ((rd_T26 x7_1 x13_1).f3)) := hcc11 3 _ rfl
       have hf11_0 : wr.frozen? ⟨go11, (x13_1 : Int).toNat * 4, none⟩ = false := hfr11 0
       have hf11_1 : wr.frozen? ⟨go11, (x13_1 : Int).toNat * 4 + 1, none⟩ = false := hfr11 1
       have hf11_2 : wr.frozen? ⟨go11, (x13_1 : Int).toNat * 4 + 2, none⟩ = false := hfr11 2
       have hf11_3 : wr.frozen? ⟨go11, (x13_1 : Int).toNat * 4 + 3, none⟩ = false := hfr11 3
       clear hcl11 hcc11 hfr11 hM11
       replace p11 := eq_true p11
       replace q11 := eq_true q11
       have HX12 := Aside0.mk (show Kd.R k26 26 wr w.heap.size (fun _ => True) (.slice (some ⟨go11, 0, none⟩) x7_1.length co6) x7_1 from (by (with_reducible repeat (first | apply Kd.R_alloc | apply Kd.R_drewN | apply Kd.R_drew)); exact HO_7.out))
       obtain ⟨ce12, hcl12, hM12, hcc12, hfr12⟩ := Kd.R_elem HX12.out z26 (x13_1 : Int) (of_decide_eq_true (by first | (with_reducible assumption) | assumption)) (by have h_ : (x13_1 : Int) < ((x7_1.length : Int) : Int) := of_decide_eq_true (by first | (with_reducible assumption) | assumption); first | exact h_ | (have e_ := (Kd.R_reads' HO_7.out).1; omega) | simpa using h_)
       obtain rfl := k26_openM hM12
       have HP12 := Kd.R_seg HX12.out (x13_1 : Int) (of_decide_eq_true (by first | (with_reducible assumption) | assumption)) (by have h_ : (x13_1 : Int) < ((x7_1.length : Int) : Int) := of_decide_eq_true (by first | (with_reducible assumption) | assumption); first | exact h_ | (have e_ := (Kd.R_reads' HO_7.out).1; omega) | simpa using h_) (seg := [.int .u32 a2]) (j := 3) hcl12 hcc12 (show 4 ≤ 4 from by decide) (x' := (⟨(rd_T26 x7_1 x13_1).f0, (rd_T26 x7_1 x13_1).f1, (rd_T26 x7_1 x13_1).f2, a2⟩ : S26)) (k26_mkM _ _ _ (⟨(rd_T26 x7_1 x13_1).f0, (rd_T26 x7_1 x13_1).f1, (rd_T26 x7_1 x13_1).f2, a2⟩ : S26) ) (fun _ hk => hk)
       have hx12_3 := hcc12 3 _ rfl
       (try simp only [show (k26).sz = 4 from rfl, Nat.mul_one, Nat.add_zero] at hx12_3)
       have hf12_3 := hfr12 3
       (try simp only [show (k26).sz = 4 from rfl, Nat.mul_one, Nat.add_zero] at hf12_3)
       clear hcl12 hcc12 hfr12 hM12
       go_wp2_with (first | ((with_reducible refine gate_store (t := 23) (p := 27) rfl ?_); refine store_event (t := 23) (p := 27) (v := ?vo_w13) (w1 := (wr.setCell ⟨go11, (x13_1 : Int).toNat * 4 + 3, none⟩ (.int .u32 a2))) ?hg ?ho ?hn ?hr ?_; (case ho => rfl); (case hg => rfl); (case hn => rfl); (case hr => first | (go_simp; done) | (go_simp; rfl)); intro w13 hw; have hg : wr.grownBy w13 (some go11) := (by rw [hw]; exact HP12.2); have hp_ : Kd.R k26 26 w13 w.heap.size (fun _ => True) (.slice (some ⟨go11, 0, none⟩) x7_1.length co6) y286 := (by rw [hw, Ny286.out]; exact HP12.1); clear HP12; have n0_ := Aside0.mk (hp_); have n1_ := Aside0.mk ((by rw [hw]; exact below_set (HB.out) GB11.out : Below w.heap.size w w13)); clear HO_7; clear HB; have HO_7 := n0_; have HB := n1_; clear n0_ n1_; clear hg hw hp_))
       (try simp only [← hl7_1])
       go_roundg k1
       case measure => have := HK1.out; omega
       case rel => exact ⟨(y286), (wrap64 (x13_1 + 1)), (by first | rfl | (simp; done) | (simp [*]; done)), H', ⟨by have := HK1.out; omega⟩, ⟨by (try simp only [hl7_1]); (with_reducible repeat (first | apply Kd.R_alloc | apply Kd.R_drewN | apply Kd.R_drew)); exact HO_7.out⟩, ⟨by repeat (first | (with_reducible first | exact HB.out | apply below_alloc | apply pw_below_drewN | apply below_drew1) | exact HB.out)⟩⟩
      ·rw [if_neg c10] at H
       have c10b0 : (((rd_T26 x7_1 x13_1).f3) == a1) = false := beq_eq_false_iff_ne.mpr c10
       have c10b1 : (((rd_T26 x7_1 x13_1).f3) != a1) = true := bne_iff_ne.mpr c10
       have H' := Aside0.mk H
       clear H
       have p285 : 0 ≤ (x13_1 : Int) := of_decide_eq_true (by first | (with_reducible assumption) | assumption)
       have q285 : x13_1 < (x7_1.length : Int) := of_decide_eq_true (by first | (with_reducible assumption) | assumption)
       obtain ⟨ad285, e285, hx285_0, hx285_1, hx285_2, hx285_3⟩ := at_T26 (Kd.R_reads' HO_7.out).2.2 x13_1 p285 q285
       cases e285
       replace p285 := eq_true p285
       replace q285 := eq_true q285
       go_wp2
       (try simp only [← hl7_1])
       go_roundg k1
       case measure => have := HK1.out; omega
       case rel => exact ⟨(x7_1), (wrap64 (x13_1 + 1)), (by first | rfl | (simp; done) | (simp [*]; done)), H', ⟨by have := HK1.out; omega⟩, ⟨by (try simp only [hl7_1]); (with_reducible repeat (first | apply Kd.R_alloc | apply Kd.R_drewN | apply Kd.R_drew)); exact HO_7.out⟩, ⟨by repeat (first | (with_reducible first | exact HB.out | apply below_alloc | apply pw_below_drewN | apply below_drew1) | exact HB.out)⟩⟩
     ·rw [if_neg c9] at H
      exact absurd H (by simp)
    ·rw [if_neg c8] at H
     exact absurd H (by simp)
   ·rw [if_neg c7] at H
    have c7b0 : decide (x13_1 < (t282.length : Int)) = false := decide_eq_false c7
    rw [hl7_1] at c7b0
    clear c7
    obtain rfl := Option.some.inj H
    go_wp2
    go_ret
    exact ⟨_, by first | rfl | (simp [errW_none, errW_some] <;> rfl) | (simp [*, errW_none, errW_some] <;> rfl), by (with_reducible repeat (first | apply Kd.R_alloc | apply Kd.R_drewN | apply Kd.R_drew)); exact HO_7.out, by repeat (first | (with_reducible first | exact HB.out | apply below_alloc | apply pw_below_drewN | apply below_drew1) | exact HB.out)⟩

end Go.Proofs.YtckggmblafafjaaGreatDoor.XA
