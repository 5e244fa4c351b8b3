-- Written by a program of this session's (wip/xp) out of the translation; given functions by hand.
import Derived.Test.YtddaogebacigbaaGreatDoorXA0
import Derived.Test.YtddaogebacigbaaGreatDoorXA3
import Derived.Test.YtddaogebacigbaaGreatDoorXA5
namespace Go.Proofs.YtddaogebacigbaaGreatDoor.XA
open Go.RowKit Go.Proofs.YtddaogebacigbaaGreatDoorW.PrintWords Go.Proofs.YtddaogebacigbaaGreatDoorW.PrintLast Go.Proofs.YtddaogebacigbaaGreatDoorW.PrintMore
attribute [local go_sem] max2_int min2_int max_two min_two max_three min_three max_four min_four   -- for this text's walks alone
set_option linter.unusedVariables false
set_option linter.unusedSimpArgs false

/-! ### chart_Account_uint32: function 99 -/
def chart_Account_uint32.l0 : Nat → List (S109) → Int → Int → Int → Int → Option (Int × Bool)
 | 0, _, _, _, _, _ => none
 | k + 1, x0, x1, x8, x9, x10 => if x9 < x10 then (if 0 ≤ (wrap64 ((IntKind.u64.wrap (wrap64 (x9 + x10))) / 2)) then (if (wrap64 ((IntKind.u64.wrap (wrap64 (x9 + x10))) / 2)) < (x0.length : Int) then ((chart_Chart_Find_1.f ((rd_T109 x0 (wrap64 ((IntKind.u64.wrap (wrap64 (x9 + x10))) / 2))).f0) ((rd_T109 x0 (wrap64 ((IntKind.u64.wrap (wrap64 (x9 + x10))) / 2))).f1) ((rd_T109 x0 (wrap64 ((IntKind.u64.wrap (wrap64 (x9 + x10))) / 2))).f2) ((rd_T109 x0 (wrap64 ((IntKind.u64.wrap (wrap64 (x9 + x10))) / 2))).f3) x1).bind fun t175 => (if t175 < 0 then (chart_Account_uint32.l0 k x0 x1 x8 (wrap64 ((wrap64 ((IntKind.u64.wrap (wrap64 (x9 + x10))) / 2)) + 1)) x10) else (chart_Account_uint32.l0 k x0 x1 x8 x9 (wrap64 ((IntKind.u64.wrap (wrap64 (x9 + x10))) / 2))))) else (none)) else (none)) else (if x9 < x8 then (if 0 ≤ x9 then (if x9 < (x0.length : Int) then ((chart_Chart_Find_1.f ((rd_T109 x0 x9).f0) ((rd_T109 x0 x9).f1) ((rd_T109 x0 x9).f2) ((rd_T109 x0 x9).f3) x1).bind fun t177 => (some (x9, (t177 == 0)))) else (none)) else (none)) else (some (x9, false)))
def chart_Account_uint32.f (k : Nat) (l0 : List (S109)) (a1 : Int)  : Option (Int × Bool) := chart_Account_uint32.l0 k l0 a1 (l0.length : Int) 0 (l0.length : Int)
theorem chart_Account_uint32.mono_l : ∀ k, (∀ y0 y1 y2 y3 y4, LeO (chart_Account_uint32.l0 k y0 y1 y2 y3 y4) (chart_Account_uint32.l0 (k + 1) y0 y1 y2 y3 y4))
 | 0 => fun _ _ _ _ _ r h => by simp [chart_Account_uint32.l0] at h
 | k + 1 => by
  have ih0 := chart_Account_uint32.mono_l k
  ·intro y0 y1 y2 y3 y4
   unfold chart_Account_uint32.l0
   repeat' (with_reducible first | apply ih0 | apply LeO.refl | apply LeO.none | refine LeO.ite ?_ ?_ | refine LeO.bind ?_ (fun _ => ?_))
theorem chart_Account_uint32.mono : ∀ a0 a1 k, LeO (chart_Account_uint32.f k a0 a1) (chart_Account_uint32.f (k + 1) a0 a1) := by
 intro a0 a1 k
 have ih0 := chart_Account_uint32.mono_l k
 unfold chart_Account_uint32.f
 repeat' (with_reducible first | apply ih0 | apply LeO.refl | apply LeO.none | refine LeO.ite ?_ ?_ | refine LeO.bind ?_ (fun _ => ?_))
set_option maxHeartbeats 8000000 in
set_option maxRecDepth 100000 in
theorem chart_Account_uint32.calls (k : Nat) (A0 : Option Addr) (c0 : Nat) (l0 : List (S109)) (a1 : Int)  (r1 : Int) (r2 : Bool) (w : World) (hr0 : Kd.C k109 w A0 l0.length l0) (hc0 : l0.length ≤ c0) (h : chart_Account_uint32.f k l0 a1 = some (r1, r2)) :
  Calls Tryz.prog 99 #[.slice A0 l0.length c0, .int .u32 a1, .func (.func 100) #[] #[]] w fun e w' => e = .returned (.tuple #[.int .i64 r1, .bool r2]) ∧ Below w.heap.size w w' := by
 have hu109 := Tryz.underlying109
 have HR0 := Aside0.mk hr0
 have HC0 := Aside0.mk hc0
 clear hr0 hc0
 have HB := Aside0.mk (Below.refl w.heap.size w)
 have H : (chart_Account_uint32.l0 k l0 a1 (l0.length : Int) 0 (l0.length : Int)) = some (r1, r2) := h
 clear h
 have H' := Aside0.mk H
 clear H
 go_enter Tryz.func99, Tryz.ntmps99
 go_wp2
 go_loopg [9, 10] k (fun kq v9 v10 w' => ∃ (x9_1 : Int) (x10_1 : Int), v9 = .int .i64 x9_1 ∧ v10 = .int .i64 x10_1 ∧ Aside0 (chart_Account_uint32.l0 kq l0 a1 (l0.length : Int) x9_1 x10_1 = some (r1, r2)) ∧ Aside0 (kq ≤ k) ∧ Aside0 (Below w.heap.size w w'))
 case atStart => exact ⟨(0), ((l0.length : Int)), eS, eS, H', ⟨Nat.le_refl _⟩, ⟨bB⟩⟩
 case round =>
  clear H'
  try clear p2
  obtain ⟨x9_1, x10_1, rfl, rfl, HA, HK1, HB⟩ := hrel
  cases gk with
  | zero => exact absurd HA.out (by simp [chart_Account_uint32.l0])
  | succ k1 =>
   have H := HA.out
   clear HA
   simp only [chart_Account_uint32.l0] at H
   by_cases c4 : x9_1 < x10_1
   ·rw [if_pos c4] at H
    have c4b0 : decide (x9_1 < x10_1) = true := decide_eq_true c4
    clear c4
    obtain ⟨ji5, hji5⟩ : ∃ j_ : Int, (wrap64 ((IntKind.u64.wrap (wrap64 (x9_1 + x10_1))) / 2)) = j_ := ⟨_, rfl⟩
    replace H : (if 0 ≤ (ji5) then (if (ji5) < (l0.length : Int) then ((chart_Chart_Find_1.f ((rd_T109 l0 (ji5)).f0) ((rd_T109 l0 (ji5)).f1) ((rd_T109 l0 (ji5)).f2) ((rd_T109 l0 (ji5)).f3) a1).bind fun t175 => (if t175 < 0 then (chart_Account_uint32.l0 k1 l0 a1 (l0.length : Int) (wrap64 ((ji5) + 1)) x10_1) else (chart_Account_uint32.l0 k1 l0 a1 (l0.length : Int) x9_1 ji5))) else (none)) else (none)) = some (r1, r2) := by first | (rw [hji5] at H; exact H) | (simp only [hji5] at H ⊢; exact H)
    have hji5w : (IntKind.i64.wrap ((IntKind.u64.wrap (wrap64 (x9_1 + x10_1))) / 2)) = ji5 := (i64_w _).trans hji5
    by_cases c6 : 0 ≤ (ji5)
    ·rw [if_pos c6] at H
     have c6b0 : decide (0 ≤ (ji5)) = true := decide_eq_true c6
     clear c6
     by_cases c7 : (ji5) < (l0.length : Int)
     ·rw [if_pos c7] at H
      have c7b0 : decide ((ji5) < (l0.length : Int)) = true := decide_eq_true c7
      clear c7
      replace H := Option.bind_eq_some_iff.mp H
      obtain ⟨t175, A80, H⟩ := H
      replace H : (if t175 < 0 then (chart_Account_uint32.l0 k1 l0 a1 (l0.length : Int) (wrap64 ((ji5) + 1)) x10_1) else (chart_Account_uint32.l0 k1 l0 a1 (l0.length : Int) x9_1 ji5)) = some (r1, r2) := H
      have A8 := Aside0.mk A80
      clear A80
      by_cases c9 : t175 < 0
      ·rw [if_pos c9] at H
       have c9b0 : decide (t175 < 0) = true := decide_eq_true c9
       clear c9
       have H' := Aside0.mk H
       clear H
       have p174 : 0 ≤ ((ji5) : Int) := of_decide_eq_true aS
       have q174 : (ji5) < (l0.length : Int) := of_decide_eq_true aS
       obtain ⟨ad174, e174, hx174_0, hx174_1, hx174_2, hx174_3⟩ := at_T109 HR0.out (ji5) p174 q174
       cases e174
       replace hx174_0 := (HB.out.cell (World.block_lt_of_cell? w _ hx174_0)).trans hx174_0
       replace hx174_1 := (HB.out.cell (World.block_lt_of_cell? w _ hx174_1)).trans hx174_1
       replace hx174_2 := (HB.out.cell (World.block_lt_of_cell? w _ hx174_2)).trans hx174_2
       replace hx174_3 := (HB.out.cell (World.block_lt_of_cell? w _ hx174_3)).trans hx174_3
       replace p174 := eq_true p174
       replace q174 := eq_true q174
       go_wp2_with (first | (go_at_call 100; (with_reducible refine (chart_Chart_Find_1.calls ((rd_T109 l0 (ji5)).f0) ((rd_T109 l0 (ji5)).f1) ((rd_T109 l0 (ji5)).f2) ((rd_T109 l0 (ji5)).f3) a1 t175 _ A8.out).mono ?_); rintro e w10 ⟨rfl, hb⟩; replace HB := Aside0.mk (below_step bB hb); (try clear hb); (try clear hb2); (try clear hk); (try clear hi)))
       go_roundg k1
       case measure => have := HK1.out; omega
       case rel => exact ⟨(wrap64 ((ji5) + 1)), (x10_1), (by first | rfl | (simp; done) | (simp only [← hji5] <;> (first | rfl | simp)) | (simp [*]; done)), eS, H', ⟨by have := HK1.out; omega⟩, ⟨bB⟩⟩
      ·rw [if_neg c9] at H
       have c9b0 : decide (t175 < 0) = false := decide_eq_false c9
       clear c9
       have H' := Aside0.mk H
       clear H
       have p174 : 0 ≤ ((ji5) : Int) := of_decide_eq_true aS
       have q174 : (ji5) < (l0.length : Int) := of_decide_eq_true aS
       obtain ⟨ad174, e174, hx174_0, hx174_1, hx174_2, hx174_3⟩ := at_T109 HR0.out (ji5) p174 q174
       cases e174
       replace hx174_0 := (HB.out.cell (World.block_lt_of_cell? w _ hx174_0)).trans hx174_0
       replace hx174_1 := (HB.out.cell (World.block_lt_of_cell? w _ hx174_1)).trans hx174_1
       replace hx174_2 := (HB.out.cell (World.block_lt_of_cell? w _ hx174_2)).trans hx174_2
       replace hx174_3 := (HB.out.cell (World.block_lt_of_cell? w _ hx174_3)).trans hx174_3
       replace p174 := eq_true p174
       replace q174 := eq_true q174
       go_wp2_with (first | (go_at_call 100; (with_reducible refine (chart_Chart_Find_1.calls ((rd_T109 l0 (ji5)).f0) ((rd_T109 l0 (ji5)).f1) ((rd_T109 l0 (ji5)).f2) ((rd_T109 l0 (ji5)).f3) a1 t175 _ A8.out).mono ?_); rintro e w11 ⟨rfl, hb⟩; replace HB := Aside0.mk (below_step bB hb); (try clear hb); (try clear hb2); (try clear hk); (try clear hi)))
       go_roundg k1
       case measure => have := HK1.out; omega
       case rel => exact ⟨(x9_1), (ji5), eS, (by first | rfl | (simp; done) | (simp only [← hji5] <;> (first | rfl | simp)) | (simp [*]; done)), H', ⟨by have := HK1.out; omega⟩, ⟨bB⟩⟩
     ·rw [if_neg c7] at H
      exact absurd H (by simp)
    ·rw [if_neg c6] at H
     exact absurd H (by simp)
   ·rw [if_neg c4] at H
    have c4b0 : decide (x9_1 < x10_1) = false := decide_eq_false c4
    clear c4
    by_cases c12 : x9_1 < (l0.length : Int)
    ·rw [if_pos c12] at H
     have c12b0 : decide (x9_1 < (l0.length : Int)) = true := decide_eq_true c12
     clear c12
     by_cases c13 : 0 ≤ x9_1
     ·rw [if_pos c13] at H
      have c13b0 : decide (0 ≤ x9_1) = true := decide_eq_true c13
      clear c13
      by_cases c14 : x9_1 < (l0.length : Int)
      ·rw [if_pos c14] at H
       have c14b0 : decide (x9_1 < (l0.length : Int)) = true := decide_eq_true c14
       clear c14
       replace H := Option.bind_eq_some_iff.mp H
       obtain ⟨t177, A150, H⟩ := H
       replace H : (some (x9_1, (t177 == 0))) = some (r1, r2) := H
       have A15 := Aside0.mk A150
       clear A150
       simp only [Option.some.injEq, Prod.mk.injEq] at H
       obtain ⟨rfl, rfl⟩ := H
       have p176 : 0 ≤ (x9_1 : Int) := of_decide_eq_true aS
       have q176 : x9_1 < (l0.length : Int) := of_decide_eq_true aS
       obtain ⟨ad176, e176, hx176_0, hx176_1, hx176_2, hx176_3⟩ := at_T109 HR0.out x9_1 p176 q176
       cases e176
       replace hx176_0 := (HB.out.cell (World.block_lt_of_cell? w _ hx176_0)).trans hx176_0
       replace hx176_1 := (HB.out.cell (World.block_lt_of_cell? w _ hx176_1)).trans hx176_1
       replace hx176_2 := (HB.out.cell (World.block_lt_of_cell? w _ hx176_2)).trans hx176_2
       replace hx176_3 := (HB.out.cell (World.block_lt_of_cell? w _ hx176_3)).trans hx176_3
       replace p176 := eq_true p176
       replace q176 := eq_true q176
       go_wp2_with (first | (go_at_call 100; (with_reducible refine (chart_Chart_Find_1.calls ((rd_T109 l0 x9_1).f0) ((rd_T109 l0 x9_1).f1) ((rd_T109 l0 x9_1).f2) ((rd_T109 l0 x9_1).f3) a1 t177 _ A15.out).mono ?_); rintro e w16 ⟨rfl, hb⟩; replace HB := Aside0.mk (below_step bB hb); (try clear hb); (try clear hb2); (try clear hk); (try clear hi)))
       go_ret2
       exact ⟨eR, bB⟩
      ·rw [if_neg c14] at H
       exact absurd H (by simp)
     ·rw [if_neg c13] at H
      exact absurd H (by simp)
    ·rw [if_neg c12] at H
     have c12b0 : decide (x9_1 < (l0.length : Int)) = false := decide_eq_false c12
     clear c12
     simp only [Option.some.injEq, Prod.mk.injEq] at H
     obtain ⟨rfl, rfl⟩ := H
     go_wp2
     go_ret2
     exact ⟨eR, bB⟩

/-! ### chart_Chart_Find: function 80 -/
def chart_Chart_Find.f (k : Nat) (l0 : List (S109)) (a1 : Int) : Option (Int × Bool) := (chart_Account_uint32.f k l0 a1).bind fun bt178 => (some (bt178.1, bt178.2))
theorem chart_Chart_Find.mono : ∀ a0 a1 k, LeO (chart_Chart_Find.f k a0 a1) (chart_Chart_Find.f (k + 1) a0 a1) := by
 intro a0 a1 k
 unfold chart_Chart_Find.f
 repeat' (with_reducible first | apply chart_Account_uint32.mono | apply LeO.refl | apply LeO.none | refine LeO.ite ?_ ?_ | refine LeO.bind ?_ (fun _ => ?_))
set_option maxHeartbeats 8000000 in
set_option maxRecDepth 100000 in
theorem chart_Chart_Find.calls (k : Nat) (A0 : Option Addr) (c0 : Nat) (l0 : List (S109)) (a1 : Int) (r1 : Int) (r2 : Bool) (w : World) (hr0 : Kd.C k109 w A0 l0.length l0) (hc0 : l0.length ≤ c0) (h : chart_Chart_Find.f k l0 a1 = some (r1, r2)) :
  Calls Tryz.prog 80 #[.slice A0 l0.length c0, .int .u32 a1] w fun e w' => e = .returned (.tuple #[.int .i64 r1, .bool r2]) ∧ Below w.heap.size w w' := by
 have HR0 := Aside0.mk hr0
 have HC0 := Aside0.mk hc0
 clear hr0 hc0
 have HB := Aside0.mk (Below.refl w.heap.size w)
 have H : ((chart_Account_uint32.f k l0 a1).bind fun bt178 => (some (bt178.1, bt178.2))) = some (r1, r2) := h
 clear h
 replace H := Option.bind_eq_some_iff.mp H
 obtain ⟨⟨t178, t179⟩, A30, H⟩ := H
 replace H : (some (t178, t179)) = some (r1, r2) := H
 have A3 := Aside0.mk A30
 clear A30
 simp only [Option.some.injEq, Prod.mk.injEq] at H
 obtain ⟨rfl, rfl⟩ := H
 go_enter Tryz.func80, Tryz.ntmps80
 go_wp2_with (first | ((with_reducible refine gate_callee (f := 99) rfl ?_); refine goesL_ (some 8) rfl rfl Tryz.func99 (by kernel_rfl) rfl #[.slice A0 l0.length c0, .int .u32 a1, .func (.func 100) #[] #[]] rfl eA ?_; (with_reducible refine (chart_Account_uint32.calls k _ _ l0 a1  t178 t179 _ ?side1 ?side2 A3.out).mono ?_); (case side1 => exact Kd.C_below (HR0.out) oN); (case side2 => exact HC0.out); rintro e w4 ⟨rfl, hb⟩; refine ⟨_, rfl, ?_⟩; replace HB := Aside0.mk (below_step bB hb); (try clear hb); (try clear hb2); (try clear hk); (try clear hi)))
 go_ret2
 exact ⟨eR, bB⟩

/-! ### chart_Chart_Get: function 52 -/
def chart_Chart_Get.f (k : Nat) (l0 : List (S109)) (a1 : Int) : Option (Int × ByteArray × Int × Int × Bool) := (chart_Chart_Find.f k l0 a1).bind fun bt181 => (if bt181.2 = true then (if 0 ≤ bt181.1 then (if bt181.1 < (l0.length : Int) then (some ((rd_T109 l0 bt181.1).f0, (rd_T109 l0 bt181.1).f1, (rd_T109 l0 bt181.1).f2, (rd_T109 l0 bt181.1).f3, true)) else (none)) else (none)) else (some (0, (⟨#[]⟩ : ByteArray), 0, 0, false)))
theorem chart_Chart_Get.mono : ∀ a0 a1 k, LeO (chart_Chart_Get.f k a0 a1) (chart_Chart_Get.f (k + 1) a0 a1) := by
 intro a0 a1 k
 unfold chart_Chart_Get.f
 repeat' (with_reducible first | apply chart_Chart_Find.mono | apply LeO.refl | apply LeO.none | refine LeO.ite ?_ ?_ | refine LeO.bind ?_ (fun _ => ?_))
set_option maxHeartbeats 8000000 in
set_option maxRecDepth 100000 in
theorem chart_Chart_Get.calls (k : Nat) (A0 : Option Addr) (c0 : Nat) (l0 : List (S109)) (a1 : Int) (r1 : Int) (r2 : ByteArray) (r3 : Int) (r4 : Int) (r5 : Bool) (w : World) (hr0 : Kd.C k109 w A0 l0.length l0) (hc0 : l0.length ≤ c0) (h : chart_Chart_Get.f k l0 a1 = some (r1, r2, r3, r4, r5)) :
  Calls Tryz.prog 52 #[.slice A0 l0.length c0, .int .u32 a1] w fun e w' => e = .returned (.tuple #[.agg #[.int .u32 r1, .string r2, .int .u8 r3, .int .u32 r4], .bool r5]) ∧ Below w.heap.size w w' := by
 have hu109 := Tryz.underlying109
 have HR0 := Aside0.mk hr0
 have HC0 := Aside0.mk hc0
 clear hr0 hc0
 have HB := Aside0.mk (Below.refl w.heap.size w)
 have H : ((chart_Chart_Find.f k l0 a1).bind fun bt181 => (if bt181.2 = true then (if 0 ≤ bt181.1 then (if bt181.1 < (l0.length : Int) then (some ((rd_T109 l0 bt181.1).f0, (rd_T109 l0 bt181.1).f1, (rd_T109 l0 bt181.1).f2, (rd_T109 l0 bt181.1).f3, true)) else (none)) else (none)) else (some (0, (⟨#[]⟩ : ByteArray), 0, 0, false)))) = some (r1, r2, r3, r4, r5) := h
 clear h
 replace H := Option.bind_eq_some_iff.mp H
 obtain ⟨⟨t181, t182⟩, A30, H⟩ := H
 replace H : (if t182 = true then (if 0 ≤ t181 then (if t181 < (l0.length : Int) then (some ((rd_T109 l0 t181).f0, (rd_T109 l0 t181).f1, (rd_T109 l0 t181).f2, (rd_T109 l0 t181).f3, true)) else (none)) else (none)) else (some (0, (⟨#[]⟩ : ByteArray), 0, 0, false))) = some (r1, r2, r3, r4, r5) := H
 have A3 := Aside0.mk A30
 clear A30
 by_cases c4 : t182 = true
 ·subst c4
  have H1 : (if 0 ≤ t181 then (if t181 < (l0.length : Int) then (some ((rd_T109 l0 t181).f0, (rd_T109 l0 t181).f1, (rd_T109 l0 t181).f2, (rd_T109 l0 t181).f3, true)) else (none)) else (none)) = some (r1, r2, r3, r4, r5) := by rw [if_pos rfl] at H; exact H
  clear H
  have H := H1
  clear H1
  by_cases c5 : 0 ≤ t181
  ·rw [if_pos c5] at H
   have c5b0 : decide (0 ≤ t181) = true := decide_eq_true c5
   clear c5
   by_cases c6 : t181 < (l0.length : Int)
   ·rw [if_pos c6] at H
    have c6b0 : decide (t181 < (l0.length : Int)) = true := decide_eq_true c6
    clear c6
    simp only [Option.some.injEq, Prod.mk.injEq] at H
    obtain ⟨rfl, rfl, rfl, rfl, rfl⟩ := H
    go_enter Tryz.func52, Tryz.ntmps52
    go_wp2_with (first | ((with_reducible refine gate_dst (N := 4) rfl ?_); refine box_event ?hg (N := 4) ?hd (cs := #[.int .u32 0, .string (⟨#[]⟩ : ByteArray), .int .u8 0, .int .u32 0]) (t := 109) ?hr ?_; (case hd => rfl); (case hg => rfl); (case hr => first | (go_simp; done) | (go_simp; rfl)); intro gb180 hg w7 hbox hb; have n0_ := Aside0.mk (below_step bB hb); have n1_ := Aside0.mk (hbox); have n2_ := Aside0.mk ((by rw [hg]; exact (below_size bB) : w.heap.size ≤ gb180)); have n3_ := Aside0.mk ((by rw [hg]; exact (below_size bB) : w.heap.size ≤ gb180)); clear HB; have HB := n0_; have BK180 := n1_; have GW180 := n2_; have GE180 := n3_; clear n0_ n1_ n2_ n3_; clear hb hbox hg) | ((with_reducible refine gate_callee (f := 80) rfl ?_); refine goesL_ (some 11) rfl rfl Tryz.func80 (by kernel_rfl) rfl #[.slice A0 l0.length c0, .int .u32 a1] rfl eA ?_; (with_reducible refine (chart_Chart_Find.calls k _ _ l0 a1 t181 true _ ?side1 ?side2 A3.out).mono ?_); (case side1 => exact Kd.C_below ((Kd.C_below HR0.out HB.out)) oN); (case side2 => exact HC0.out); rintro e w8 ⟨rfl, hb⟩; refine ⟨_, rfl, ?_⟩; replace BK180 := Aside0.mk (blk_below (blk_below BK180.out oN) hb); replace HB := Aside0.mk (below_step bG hb); (try clear hb); (try clear hb2); (try clear hk); (try clear hi); have p183 : 0 ≤ (t181 : Int) := of_decide_eq_true aS; have q183 : t181 < (l0.length : Int) := of_decide_eq_true aS; obtain ⟨ad183, e183, hx183_0, hx183_1, hx183_2, hx183_3⟩ := at_T109 HR0.out t181 p183 q183; cases e183; replace hx183_0 := (HB.out.cell (World.block_lt_of_cell? w _ hx183_0)).trans hx183_0; replace hx183_1 := (HB.out.cell (World.block_lt_of_cell? w _ hx183_1)).trans hx183_1; replace hx183_2 := (HB.out.cell (World.block_lt_of_cell? w _ hx183_2)).trans hx183_2; replace hx183_3 := (HB.out.cell (World.block_lt_of_cell? w _ hx183_3)).trans hx183_3; replace p183 := eq_true p183; replace q183 := eq_true q183; obtain ⟨hcz9_0, hcz9_1, hcz9_2, hcz9_3, hfz9_0, hfz9_1, hfz9_2, hfz9_3⟩ := cl4 BK180.out))
    refine bodyPost_ret (results_ct rfl _ _ gb180 109 #[.int .u32 ((rd_T109 l0 t181).f0), .string ((rd_T109 l0 t181).f1), .int .u8 ((rd_T109 l0 t181).f2), .int .u32 ((rd_T109 l0 t181).f3)] (0, 0) _ rfl (by (with_reducible repeat (first | refine blk_drewN ?_ _ | refine blk_drew ?_ | refine blk_alloc ?_ _)); refine blk_put (cs := #[.int .u32 ((rd_T109 l0 t181).f0), .string ((rd_T109 l0 t181).f1), .int .u8 ((rd_T109 l0 t181).f2), .int .u32 0]) ?_ 3 _ rfl; (with_reducible repeat (first | refine blk_drewN ?_ _ | refine blk_drew ?_ | refine blk_alloc ?_ _)); refine blk_put (cs := #[.int .u32 ((rd_T109 l0 t181).f0), .string ((rd_T109 l0 t181).f1), .int .u8 0, .int .u32 0]) ?_ 2 _ rfl; (with_reducible repeat (first | refine blk_drewN ?_ _ | refine blk_drew ?_ | refine blk_alloc ?_ _)); refine blk_put (cs := #[.int .u32 ((rd_T109 l0 t181).f0), .string (⟨#[]⟩ : ByteArray), .int .u8 0, .int .u32 0]) ?_ 1 _ rfl; (with_reducible repeat (first | refine blk_drewN ?_ _ | refine blk_drew ?_ | refine blk_alloc ?_ _)); refine blk_put (cs := #[.int .u32 0, .string (⟨#[]⟩ : ByteArray), .int .u8 0, .int .u32 0]) ?_ 0 _ rfl; (with_reducible repeat (first | refine blk_drewN ?_ _ | refine blk_drew ?_ | refine blk_alloc ?_ _)); exact BK180.out) Tryz.underlying109 rfl (by kernel_rfl)) rfl ?_
    exact ⟨eR, bG⟩
   ·rw [if_neg c6] at H
    exact absurd H (by simp)
  ·rw [if_neg c5] at H
   exact absurd H (by simp)
 ·replace c4 := Bool.eq_false_iff.mpr c4
  subst c4
  have H1 : (some (0, (⟨#[]⟩ : ByteArray), 0, 0, false)) = some (r1, r2, r3, r4, r5) := by rw [if_neg (show ¬ (false = true) by decide)] at H; exact H
  clear H
  have H := H1
  clear H1
  simp only [Option.some.injEq, Prod.mk.injEq] at H
  obtain ⟨rfl, rfl, rfl, rfl, rfl⟩ := H
  go_enter Tryz.func52, Tryz.ntmps52
  go_wp2_with (first | ((with_reducible refine gate_dst (N := 4) rfl ?_); refine box_event ?hg (N := 4) ?hd (cs := #[.int .u32 0, .string (⟨#[]⟩ : ByteArray), .int .u8 0, .int .u32 0]) (t := 109) ?hr ?_; (case hd => rfl); (case hg => rfl); (case hr => first | (go_simp; done) | (go_simp; rfl)); intro gb180 hg w10 hbox hb; have n0_ := Aside0.mk (below_step bB hb); have n1_ := Aside0.mk (hbox); have n2_ := Aside0.mk ((by rw [hg]; exact (below_size bB) : w.heap.size ≤ gb180)); have n3_ := Aside0.mk ((by rw [hg]; exact (below_size bB) : w.heap.size ≤ gb180)); clear HB; have HB := n0_; have BK180 := n1_; have GW180 := n2_; have GE180 := n3_; clear n0_ n1_ n2_ n3_; clear hb hbox hg) | ((with_reducible refine gate_callee (f := 80) rfl ?_); refine goesL_ (some 11) rfl rfl Tryz.func80 (by kernel_rfl) rfl #[.slice A0 l0.length c0, .int .u32 a1] rfl eA ?_; (with_reducible refine (chart_Chart_Find.calls k _ _ l0 a1 t181 false _ ?side1 ?side2 A3.out).mono ?_); (case side1 => exact Kd.C_below ((Kd.C_below HR0.out HB.out)) oN); (case side2 => exact HC0.out); rintro e w11 ⟨rfl, hb⟩; refine ⟨_, rfl, ?_⟩; replace BK180 := Aside0.mk (blk_below (blk_below BK180.out oN) hb); replace HB := Aside0.mk (below_step bG hb); (try clear hb); (try clear hb2); (try clear hk); (try clear hi); obtain ⟨hcz12_0, hcz12_1, hcz12_2, hcz12_3, hfz12_0, hfz12_1, hfz12_2, hfz12_3⟩ := cl4 BK180.out))
  refine bodyPost_ret (results_ct rfl _ _ gb180 109 #[.int .u32 0, .string (⟨#[]⟩ : ByteArray), .int .u8 0, .int .u32 0] (0, 0) _ rfl (by (with_reducible repeat (first | refine blk_drewN ?_ _ | refine blk_drew ?_ | refine blk_alloc ?_ _)); refine blk_put (cs := #[.int .u32 0, .string (⟨#[]⟩ : ByteArray), .int .u8 0, .int .u32 0]) ?_ 3 _ rfl; (with_reducible repeat (first | refine blk_drewN ?_ _ | refine blk_drew ?_ | refine blk_alloc ?_ _)); refine blk_put (cs := #[.int .u32 0, .string (⟨#[]⟩ : ByteArray), .int .u8 0, .int .u32 0]) ?_ 2 _ rfl; (with_reducible repeat (first | refine blk_drewN ?_ _ | refine blk_drew ?_ | refine blk_alloc ?_ _)); refine blk_put (cs := #[.int .u32 0, .string (⟨#[]⟩ : ByteArray), .int .u8 0, .int .u32 0]) ?_ 1 _ rfl; (with_reducible repeat (first | refine blk_drewN ?_ _ | refine blk_drew ?_ | refine blk_alloc ?_ _)); refine blk_put (cs := #[.int .u32 0, .string (⟨#[]⟩ : ByteArray), .int .u8 0, .int .u32 0]) ?_ 0 _ rfl; (with_reducible repeat (first | refine blk_drewN ?_ _ | refine blk_drew ?_ | refine blk_alloc ?_ _)); exact BK180.out) Tryz.underlying109 rfl (by kernel_rfl)) rfl ?_
  exact ⟨eR, bG⟩

/-! ### unit_Units_Has: function 53 -/
def unit_Units_Has.f (k : Nat) (l0 : List Int) (a1 : Int) : Option (Bool) := (unit_Units_uint16_78.f k l0 a1).bind fun t184 => (some t184)
theorem unit_Units_Has.mono : ∀ a0 a1 k, LeO (unit_Units_Has.f k a0 a1) (unit_Units_Has.f (k + 1) a0 a1) := by
 intro a0 a1 k
 unfold unit_Units_Has.f
 repeat' (with_reducible first | apply unit_Units_uint16_78.mono | apply LeO.refl | apply LeO.none | refine LeO.ite ?_ ?_ | refine LeO.bind ?_ (fun _ => ?_))
set_option maxHeartbeats 8000000 in
set_option maxRecDepth 100000 in
theorem unit_Units_Has.calls (k : Nat) (A0 : Option Addr) (c0 : Nat) (l0 : List Int) (a1 : Int) (r : Bool) (w : World) (hr0 : Kd.C (Kd.int .u16) w A0 l0.length l0) (hc0 : l0.length ≤ c0) (h : unit_Units_Has.f k l0 a1 = some r) :
  Calls Tryz.prog 53 #[.slice A0 l0.length c0, .int .u16 a1] w fun e w' => e = .returned (.bool r) ∧ Drawn0 w w' := by
 have HR0 := Aside0.mk hr0
 have HC0 := Aside0.mk hc0
 clear hr0 hc0
 have H : ((unit_Units_uint16_78.f k l0 a1).bind fun t184 => (some t184)) = some r := h
 clear h
 replace H := Option.bind_eq_some_iff.mp H
 obtain ⟨t184, A30, H⟩ := H
 replace H : (some t184) = some r := H
 have A3 := Aside0.mk A30
 clear A30
 obtain rfl := Option.some.inj H
 go_enter Tryz.func53, Tryz.ntmps53
 go_wp2_with (first | ((with_reducible refine gate_callee (f := 78) rfl ?_); refine goesL_ (some 7) rfl rfl Tryz.func78 (by kernel_rfl) rfl #[.slice A0 l0.length c0, .int .u16 a1] rfl eA ?_; (with_reducible refine (unit_Units_uint16_78.calls k _ _ l0 a1 t184 _ ?side1 ?side2 A3.out).mono ?_); (case side1 => exact Kd.C_below (HR0.out) oN); (case side2 => exact HC0.out); rintro e w' ⟨rfl, ⟨nd, rfl⟩⟩; refine ⟨_, rfl, ?_⟩))
 go_ret
 exact ⟨eS, dD⟩

/-! ### book_Frame_Line: function 27 -/
def flineF (k : Nat) (ch : List S109) (un : List Int) (q0 q1 q2 : Int) : Option Int :=
  (chart_Chart_Get.f k ch q0).bind fun g => if g.2.2.2.2 = true then (unit_Units_Has.f k un q1).bind fun h => if h = true then (if q2 = 0 then some 0 else (unit_Units_Has.f k un q2).bind fun h2 => if h2 = true then some 0 else some 8) else some 8 else some 8
set_option maxHeartbeats 8000000 in
set_option maxRecDepth 100000 in
theorem xqFline (k : Nat) (A0 : Option Addr) (c0 : Nat) (ch : List S109) (A1 : Option Addr) (c1 : Nat) (un : List Int) (A2 : Option Addr) (n2 c2 : Nat) (en q0 q1 q2 q3 r : Int) (w : World)
    (hr0 : Kd.C k109 w A0 ch.length ch) (hc0 : ch.length ≤ c0) (hr1 : Kd.C (Kd.int .u16) w A1 un.length un) (hc1 : un.length ≤ c1) (h : flineF k ch un q0 q1 q2 = some r) :
    Calls Tryz.prog 27 #[.agg #[.slice A0 ch.length c0, .slice A1 un.length c1, .slice A2 n2 c2, .int .i32 en], .agg #[.int .u32 q0, .int .u16 q1, .int .u16 q2, .int .i64 q3]] w
      fun e w' => e = .returned (.int .i64 r) ∧ Below w.heap.size w w' := by
  have hu1 := Tryz.underlying28
  have hu2 := Tryz.underlying67
  have hu3 := Tryz.underlying109
  have R0 := Aside0.mk hr0
  have L0 := Aside0.mk hc0
  have R1 := Aside0.mk hr1
  have L1 := Aside0.mk hc1
  unfold flineF at h
  obtain ⟨⟨g0, g1, g2, g3, g4⟩, N1, h⟩ := Option.bind_eq_some_iff.mp h
  have M1 := Aside0.mk N1
  have H := Aside0.mk h
  clear hr0 hc0 hr1 hc1 N1 h
  go_enter Tryz.func27, Tryz.ntmps27
  go_upto_region 1 with fail
  obtain ⟨W, hW, B1, B2, HB, HS⟩ := xq2 w (Obj.cells #[.slice A0 ch.length c0, .slice A1 un.length c1, .slice A2 n2 c2, .int .i32 en] 67) (Obj.cells #[.int .u32 q0, .int .u16 q1, .int .u16 q2, .int .i64 q3] 28)
  rw [← hW]
  clear hW
  have HBB := Aside0.mk HB
  have HB1 := Aside0.mk B1
  have HB2 := Aside0.mk B2
  clear B1 B2 HB HS
  obtain ⟨y0, y1, y2, y3, _, _, _, _⟩ := cl4 HB1.out
  obtain ⟨z0, z1, z2, z3, _, _, _, _⟩ := cl4 HB2.out
  go_upto_region 2 with (first
    | (go_at_call 52; (with_reducible refine (chart_Chart_Get.calls k A0 c0 ch q0 g0 g1 g2 g3 g4 _ ?s0 L0.out M1.out).mono ?_); (case s0 => exact Kd.C_below R0.out HBB.out); rintro e2 w2 ⟨rfl, hb⟩; have P1 := Aside0.mk (blk_alloc (blk_below HB1.out hb) (Obj.cells #[.int .u32 g0, .string g1, .int .u8 g2, .int .u32 g3] 109)); have P2 := Aside0.mk (blk_alloc (blk_below HB2.out hb) (Obj.cells #[.int .u32 g0, .string g1, .int .u8 g2, .int .u32 g3] 109)); have HBy := Aside0.mk (below_alloc (below_step HBB.out hb) (Obj.cells #[.int .u32 g0, .string g1, .int .u8 g2, .int .u32 g3] 109)); clear hb)
    | fail)
  clear y0 y1 y2 y3 z0 z1 z2 z3 HB1 HB2 HBB
  generalize w2.alloc (Obj.cells #[.int .u32 g0, .string g1, .int .u8 g2, .int .u32 g3] 109) = V at P1 P2 HBy ⊢
  obtain ⟨y0, y1, y2, y3, _, _, _, _⟩ := cl4 P1.out
  obtain ⟨z0, z1, z2, z3, _, _, _, _⟩ := cl4 P2.out
  cases g4 with
  | false =>
    obtain rfl := Option.some.inj ((if_neg (by decide)).symm.trans H.out)
    go_wp2_with fail
    go_ret
    exact ⟨rfl, below_step HBy.out oN⟩
  | true =>
    obtain ⟨h1, N2, h⟩ := Option.bind_eq_some_iff.mp ((if_pos rfl).symm.trans H.out)
    have M2 := Aside0.mk N2
    have H2 := Aside0.mk h
    clear N2 h H
    cases h1 with
    | false =>
      obtain rfl := Option.some.inj ((if_neg (by decide)).symm.trans H2.out)
      go_wp2_with (first | (go_at_call 53; (with_reducible refine (unit_Units_Has.calls k A1 c1 un q1 false _ ?s1 L1.out M2.out).mono ?_); (case s1 => exact Kd.C_below R1.out (below_step HBy.out oN)); rintro e2 w2 ⟨rfl, ⟨nd, rfl⟩⟩) | fail)
      go_ret
      exact ⟨rfl, below_step HBy.out oN⟩
    | true =>
      have H3 := Aside0.mk ((if_pos rfl).symm.trans H2.out)
      clear H2
      by_cases hq : q2 = 0
      · obtain rfl := Option.some.inj ((if_pos hq).symm.trans H3.out)
        subst hq
        go_wp2_with (first | (go_at_call 53; (with_reducible refine (unit_Units_Has.calls k A1 c1 un q1 true _ ?s1 L1.out M2.out).mono ?_); (case s1 => exact Kd.C_below R1.out (below_step HBy.out oN)); rintro e2 w2 ⟨rfl, ⟨nd, rfl⟩⟩) | fail)
        go_ret
        exact ⟨rfl, below_step HBy.out oN⟩
      · obtain ⟨h2, N3, h⟩ := Option.bind_eq_some_iff.mp ((if_neg hq).symm.trans H3.out)
        have M3 := Aside0.mk N3
        have H4 := Aside0.mk h
        have hb0 : (q2 == 0) = false := beq_eq_false_iff_ne.mpr hq
        have hb1 : (q2 != 0) = true := bne_iff_ne.mpr hq
        clear N3 h H3 hq
        cases h2 with
        | false =>
          obtain rfl := Option.some.inj ((if_neg (by decide)).symm.trans H4.out)
          go_wp2_with (first | (go_at_call 53; (with_reducible refine (unit_Units_Has.calls k A1 c1 un q1 true _ ?s1 L1.out M2.out).mono ?_); (case s1 => exact Kd.C_below R1.out (below_step HBy.out oN)); rintro e2 w2 ⟨rfl, ⟨nd, rfl⟩⟩) | (go_at_call 53; (with_reducible refine (unit_Units_Has.calls k A1 c1 un q2 false _ ?s1 L1.out M3.out).mono ?_); (case s1 => exact Kd.C_below R1.out (below_step HBy.out oN)); rintro e2 w2 ⟨rfl, ⟨nd, rfl⟩⟩) | fail)
          go_ret
          exact ⟨rfl, below_step HBy.out oN⟩
        | true =>
          obtain rfl := Option.some.inj ((if_pos rfl).symm.trans H4.out)
          go_wp2_with (first | (go_at_call 53; (with_reducible refine (unit_Units_Has.calls k A1 c1 un q1 true _ ?s1 L1.out M2.out).mono ?_); (case s1 => exact Kd.C_below R1.out (below_step HBy.out oN)); rintro e2 w2 ⟨rfl, ⟨nd, rfl⟩⟩) | (go_at_call 53; (with_reducible refine (unit_Units_Has.calls k A1 c1 un q2 true _ ?s1 L1.out M3.out).mono ?_); (case s1 => exact Kd.C_below R1.out (below_step HBy.out oN)); rintro e2 w2 ⟨rfl, ⟨nd, rfl⟩⟩) | fail)
          go_ret
          exact ⟨rfl, below_step HBy.out oN⟩
def book_Frame_Line.f (k : Nat) (l0_0 : List (S109)) (l0_1 : List Int) (_l0_2 : List Int) (_a0_3 : Int) (a1_0 : Int) (a1_1 : Int) (a1_2 : Int) (_a1_3 : Int) : Option Int := flineF k l0_0 l0_1 a1_0 a1_1 a1_2
theorem book_Frame_Line.mono : ∀ a0 a1 a2 a3 a4 a5 a6 a7 k, LeO (book_Frame_Line.f k a0 a1 a2 a3 a4 a5 a6 a7) (book_Frame_Line.f (k + 1) a0 a1 a2 a3 a4 a5 a6 a7) := by
  intro a0 a1 a2 a3 a4 a5 a6 a7 k
  unfold book_Frame_Line.f flineF
  repeat' (with_reducible first | apply chart_Chart_Get.mono | apply unit_Units_Has.mono | apply LeO.refl | refine LeO.ite ?_ ?_ | refine LeO.bind ?_ (fun _ => ?_))
theorem book_Frame_Line.calls (k : Nat) (A0_0 : Option Addr) (c0_0 : Nat) (l0_0 : List (S109)) (A0_1 : Option Addr) (c0_1 : Nat) (l0_1 : List Int) (A0_2 : Option Addr) (c0_2 : Nat) (l0_2 : List Int) (a0_3 : Int) (a1_0 : Int) (a1_1 : Int) (a1_2 : Int) (a1_3 : Int) (r : Int) (w : World) (hr0_0 : Kd.C k109 w A0_0 l0_0.length l0_0) (hc0_0 : l0_0.length ≤ c0_0) (hr0_1 : Kd.C (Kd.int .u16) w A0_1 l0_1.length l0_1) (hc0_1 : l0_1.length ≤ c0_1) (hr0_2 : Kd.C (Kd.int .i32) w A0_2 l0_2.length l0_2) (hc0_2 : l0_2.length ≤ c0_2) (h : book_Frame_Line.f k l0_0 l0_1 l0_2 a0_3 a1_0 a1_1 a1_2 a1_3 = some r) :
    Calls Tryz.prog 27 #[.agg #[.slice A0_0 l0_0.length c0_0, .slice A0_1 l0_1.length c0_1, .slice A0_2 l0_2.length c0_2, .int .i32 a0_3], .agg #[.int .u32 a1_0, .int .u16 a1_1, .int .u16 a1_2, .int .i64 a1_3]] w fun e w' => e = .returned (.int .i64 r) ∧ Below w.heap.size w w' :=
  xqFline k A0_0 c0_0 l0_0 A0_1 c0_1 l0_1 A0_2 l0_2.length c0_2 a0_3 a1_0 a1_1 a1_2 a1_3 r w hr0_0 hc0_0 hr0_1 hc0_1 h

end Go.Proofs.YtddaogebacigbaaGreatDoor.XA
