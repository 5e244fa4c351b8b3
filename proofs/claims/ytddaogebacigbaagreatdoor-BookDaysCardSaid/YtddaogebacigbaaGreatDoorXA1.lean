-- Written by a program of this session's (wip/xp) out of the translation; given functions by hand.
import Derived.Test.YtddaogebacigbaaGreatDoorXA0
namespace Go.Proofs.YtddaogebacigbaaGreatDoor.XA
open Go.RowKit Go.Proofs.YtddaogebacigbaaGreatDoorW.PrintWords Go.Proofs.YtddaogebacigbaaGreatDoorW.PrintLast Go.Proofs.YtddaogebacigbaaGreatDoorW.PrintMore
attribute [local go_sem] max2_int min2_int max_two min_two max_three min_three max_four min_four   -- for this text's walks alone
set_option linter.unusedVariables false
set_option linter.unusedSimpArgs false

/-! ### cmp_isNaN_uint16: function 159 -/
def cmp_isNaN_uint16.f (a0 : Int) : Option (Bool) := some (a0 != a0)
set_option maxHeartbeats 8000000 in
set_option maxRecDepth 100000 in
theorem cmp_isNaN_uint16.calls (a0 : Int) (r : Bool) (w : World) (h : cmp_isNaN_uint16.f a0 = some r) :
  Calls Tryz.prog 159 #[.int .u16 a0] w fun e w' => e = .returned (.bool r) ∧ Drawn0 w w' := by
 have H : (some (a0 != a0)) = some r := h
 clear h
 obtain rfl := Option.some.inj H
 go_enter Tryz.func159, Tryz.ntmps159
 go_wp2
 go_ret
 exact ⟨eS, dD⟩

/-! ### cmp_Less_uint16: function 132 -/
def cmp_Less_uint16.f (a0 : Int) (a1 : Int) : Option (Bool) := (cmp_isNaN_uint16.f a0).bind fun t101 => (if t101 = true then ((cmp_isNaN_uint16.f a1).bind fun t102 => (if t102 = true then (some (decide (a0 < a1))) else (some true))) else (some (decide (a0 < a1))))
set_option maxHeartbeats 8000000 in
set_option maxRecDepth 100000 in
theorem cmp_Less_uint16.calls (a0 : Int) (a1 : Int) (r : Bool) (w : World) (h : cmp_Less_uint16.f a0 a1 = some r) :
  Calls Tryz.prog 132 #[.int .u16 a0, .int .u16 a1] w fun e w' => e = .returned (.bool r) ∧ Drawn0 w w' := by
 have H : ((cmp_isNaN_uint16.f a0).bind fun t101 => (if t101 = true then ((cmp_isNaN_uint16.f a1).bind fun t102 => (if t102 = true then (some (decide (a0 < a1))) else (some true))) else (some (decide (a0 < a1))))) = some r := h
 clear h
 replace H := Option.bind_eq_some_iff.mp H
 obtain ⟨t101, A30, H⟩ := H
 replace H : (if t101 = true then ((cmp_isNaN_uint16.f a1).bind fun t102 => (if t102 = true then (some (decide (a0 < a1))) else (some true))) else (some (decide (a0 < a1)))) = some r := H
 have A3 := Aside0.mk A30
 clear A30
 by_cases c4 : t101 = true
 ·subst c4
  have H1 : ((cmp_isNaN_uint16.f a1).bind fun t102 => (if t102 = true then (some (decide (a0 < a1))) else (some true))) = some r := by rw [if_pos rfl] at H; exact H
  clear H
  have H := H1
  clear H1
  replace H := Option.bind_eq_some_iff.mp H
  obtain ⟨t102, A50, H⟩ := H
  replace H : (if t102 = true then (some (decide (a0 < a1))) else (some true)) = some r := H
  have A5 := Aside0.mk A50
  clear A50
  by_cases c6 : t102 = true
  ·subst c6
   have H1 : (some (decide (a0 < a1))) = some r := by rw [if_pos rfl] at H; exact H
   clear H
   have H := H1
   clear H1
   obtain rfl := Option.some.inj H
   go_enter Tryz.func132, Tryz.ntmps132
   go_wp2_with (first | ((with_reducible refine gate_callee (f := 159) rfl ?_); refine goesL_ (some 6) rfl rfl Tryz.func159 (by kernel_rfl) rfl #[.int .u16 a0] rfl eA ?_; (with_reducible refine (cmp_isNaN_uint16.calls a0 true _ A3.out).mono ?_); rintro e w' ⟨rfl, ⟨nd, rfl⟩⟩; refine ⟨_, rfl, ?_⟩) | (go_at_call 159; (with_reducible refine (cmp_isNaN_uint16.calls a1 true _ A5.out).mono ?_); rintro e w' ⟨rfl, ⟨nd, rfl⟩⟩))
   go_ret
   exact ⟨eS, dD⟩
  ·replace c6 := Bool.eq_false_iff.mpr c6
   subst c6
   have H1 : (some true) = some r := by rw [if_neg (show ¬ (false = true) by decide)] at H; exact H
   clear H
   have H := H1
   clear H1
   obtain rfl := Option.some.inj H
   go_enter Tryz.func132, Tryz.ntmps132
   go_wp2_with (first | ((with_reducible refine gate_callee (f := 159) rfl ?_); refine goesL_ (some 6) rfl rfl Tryz.func159 (by kernel_rfl) rfl #[.int .u16 a0] rfl eA ?_; (with_reducible refine (cmp_isNaN_uint16.calls a0 true _ A3.out).mono ?_); rintro e w' ⟨rfl, ⟨nd, rfl⟩⟩; refine ⟨_, rfl, ?_⟩) | (go_at_call 159; (with_reducible refine (cmp_isNaN_uint16.calls a1 false _ A5.out).mono ?_); rintro e w' ⟨rfl, ⟨nd, rfl⟩⟩))
   go_ret
   exact ⟨eS, dD⟩
 ·replace c4 := Bool.eq_false_iff.mpr c4
  subst c4
  have H1 : (some (decide (a0 < a1))) = some r := by rw [if_neg (show ¬ (false = true) by decide)] at H; exact H
  clear H
  have H := H1
  clear H1
  obtain rfl := Option.some.inj H
  go_enter Tryz.func132, Tryz.ntmps132
  go_wp2_with (first | ((with_reducible refine gate_callee (f := 159) rfl ?_); refine goesL_ (some 6) rfl rfl Tryz.func159 (by kernel_rfl) rfl #[.int .u16 a0] rfl eA ?_; (with_reducible refine (cmp_isNaN_uint16.calls a0 false _ A3.out).mono ?_); rintro e w' ⟨rfl, ⟨nd, rfl⟩⟩; refine ⟨_, rfl, ?_⟩))
  go_ret
  exact ⟨eS, dD⟩

/-! ### slices_isNaN_uint16: function 143 -/
def slices_isNaN_uint16.f (a0 : Int) : Option (Bool) := some (a0 != a0)
set_option maxHeartbeats 8000000 in
set_option maxRecDepth 100000 in
theorem slices_isNaN_uint16.calls (a0 : Int) (r : Bool) (w : World) (h : slices_isNaN_uint16.f a0 = some r) :
  Calls Tryz.prog 143 #[.int .u16 a0] w fun e w' => e = .returned (.bool r) ∧ Drawn0 w w' := by
 have H : (some (a0 != a0)) = some r := h
 clear h
 obtain rfl := Option.some.inj H
 go_enter Tryz.func143, Tryz.ntmps143
 go_wp2
 go_ret
 exact ⟨eS, dD⟩

/-! ### unit_Units_uint16_112: function 112 -/
def unit_Units_uint16_112.l0 : Nat → List Int → Int → Int → Int → Int → Option (Int × Bool)
 | 0, _, _, _, _, _ => none
 | k + 1, x0, x1, x6, x7, x8 => if x7 < x8 then (if 0 ≤ (wrap64 ((IntKind.u64.wrap (wrap64 (x7 + x8))) / 2)) then (if (wrap64 ((IntKind.u64.wrap (wrap64 (x7 + x8))) / 2)) < (x0.length : Int) then ((cmp_Less_uint16.f (rd x0 (wrap64 ((IntKind.u64.wrap (wrap64 (x7 + x8))) / 2))) x1).bind fun t104 => (if t104 = true then (unit_Units_uint16_112.l0 k x0 x1 x6 (wrap64 ((wrap64 ((IntKind.u64.wrap (wrap64 (x7 + x8))) / 2)) + 1)) x8) else (unit_Units_uint16_112.l0 k x0 x1 x6 x7 (wrap64 ((IntKind.u64.wrap (wrap64 (x7 + x8))) / 2))))) else (none)) else (none)) else (if x7 < x6 then (if 0 ≤ x7 then (if x7 < (x0.length : Int) then (if (rd x0 x7) = x1 then (some (x7, true)) else ((slices_isNaN_uint16.f (rd x0 x7)).bind fun t107 => (if t107 = true then ((slices_isNaN_uint16.f x1).bind fun t108 => (some (x7, t108))) else (some (x7, false))))) else (none)) else (none)) else (some (x7, false)))
def unit_Units_uint16_112.f (k : Nat) (l0 : List Int) (a1 : Int) : Option (Int × Bool) := unit_Units_uint16_112.l0 k l0 a1 (l0.length : Int) 0 (l0.length : Int)
theorem unit_Units_uint16_112.mono_l : ∀ k, (∀ y0 y1 y2 y3 y4, LeO (unit_Units_uint16_112.l0 k y0 y1 y2 y3 y4) (unit_Units_uint16_112.l0 (k + 1) y0 y1 y2 y3 y4))
 | 0 => fun _ _ _ _ _ r h => by simp [unit_Units_uint16_112.l0] at h
 | k + 1 => by
  have ih0 := unit_Units_uint16_112.mono_l k
  ·intro y0 y1 y2 y3 y4
   unfold unit_Units_uint16_112.l0
   repeat' (with_reducible first | apply ih0 | apply LeO.refl | apply LeO.none | refine LeO.ite ?_ ?_ | refine LeO.bind ?_ (fun _ => ?_))
theorem unit_Units_uint16_112.mono : ∀ a0 a1 k, LeO (unit_Units_uint16_112.f k a0 a1) (unit_Units_uint16_112.f (k + 1) a0 a1) := by
 intro a0 a1 k
 have ih0 := unit_Units_uint16_112.mono_l k
 unfold unit_Units_uint16_112.f
 repeat' (with_reducible first | apply ih0 | apply LeO.refl | apply LeO.none | refine LeO.ite ?_ ?_ | refine LeO.bind ?_ (fun _ => ?_))
set_option maxHeartbeats 8000000 in
set_option maxRecDepth 100000 in
theorem unit_Units_uint16_112.calls (k : Nat) (A0 : Option Addr) (c0 : Nat) (l0 : List Int) (a1 : Int) (r1 : Int) (r2 : Bool) (w : World) (hr0 : Kd.C (Kd.int .u16) w A0 l0.length l0) (hc0 : l0.length ≤ c0) (h : unit_Units_uint16_112.f k l0 a1 = some (r1, r2)) :
  Calls Tryz.prog 112 #[.slice A0 l0.length c0, .int .u16 a1] w fun e w' => e = .returned (.tuple #[.int .i64 r1, .bool r2]) ∧ Drawn0 w w' := by
 have HR0 := Aside0.mk hr0
 have HC0 := Aside0.mk hc0
 clear hr0 hc0
 have H : (unit_Units_uint16_112.l0 k l0 a1 (l0.length : Int) 0 (l0.length : Int)) = some (r1, r2) := h
 clear h
 have H' := Aside0.mk H
 clear H
 go_enter Tryz.func112, Tryz.ntmps112
 go_wp2
 go_loopg [7, 8] k (fun kq v7 v8 w' => ∃ (x7_1 : Int) (x8_1 : Int), v7 = .int .i64 x7_1 ∧ v8 = .int .i64 x8_1 ∧ Aside0 (unit_Units_uint16_112.l0 kq l0 a1 (l0.length : Int) x7_1 x8_1 = some (r1, r2)) ∧ Aside0 (kq ≤ k) ∧ Drawn0 w w')
 case atStart => exact ⟨(0), ((l0.length : Int)), eS, eS, H', ⟨Nat.le_refl _⟩, dD⟩
 case round =>
  clear H'
  try clear c1
  try clear p2
  obtain ⟨x7_1, x8_1, rfl, rfl, HA, HK1, ⟨m1, rfl⟩⟩ := hrel
  cases gk with
  | zero => exact absurd HA.out (by simp [unit_Units_uint16_112.l0])
  | succ k1 =>
   have H := HA.out
   clear HA
   simp only [unit_Units_uint16_112.l0] at H
   by_cases c3 : x7_1 < x8_1
   ·rw [if_pos c3] at H
    have c3b0 : decide (x7_1 < x8_1) = true := decide_eq_true c3
    clear c3
    obtain ⟨ji4, hji4⟩ : ∃ j_ : Int, (wrap64 ((IntKind.u64.wrap (wrap64 (x7_1 + x8_1))) / 2)) = j_ := ⟨_, rfl⟩
    replace H : (if 0 ≤ (ji4) then (if (ji4) < (l0.length : Int) then ((cmp_Less_uint16.f (rd l0 (ji4)) a1).bind fun t104 => (if t104 = true then (unit_Units_uint16_112.l0 k1 l0 a1 (l0.length : Int) (wrap64 ((ji4) + 1)) x8_1) else (unit_Units_uint16_112.l0 k1 l0 a1 (l0.length : Int) x7_1 ji4))) else (none)) else (none)) = some (r1, r2) := by first | (rw [hji4] at H; exact H) | (simp only [hji4] at H ⊢; exact H)
    have hji4w : (IntKind.i64.wrap ((IntKind.u64.wrap (wrap64 (x7_1 + x8_1))) / 2)) = ji4 := (i64_w _).trans hji4
    by_cases c5 : 0 ≤ (ji4)
    ·rw [if_pos c5] at H
     have c5b0 : decide (0 ≤ (ji4)) = true := decide_eq_true c5
     clear c5
     by_cases c6 : (ji4) < (l0.length : Int)
     ·rw [if_pos c6] at H
      have c6b0 : decide ((ji4) < (l0.length : Int)) = true := decide_eq_true c6
      clear c6
      replace H := Option.bind_eq_some_iff.mp H
      obtain ⟨t104, A70, H⟩ := H
      replace H : (if t104 = true then (unit_Units_uint16_112.l0 k1 l0 a1 (l0.length : Int) (wrap64 ((ji4) + 1)) x8_1) else (unit_Units_uint16_112.l0 k1 l0 a1 (l0.length : Int) x7_1 ji4)) = some (r1, r2) := H
      have A7 := Aside0.mk A70
      clear A70
      by_cases c8 : t104 = true
      ·subst c8
       have H1 : (unit_Units_uint16_112.l0 k1 l0 a1 (l0.length : Int) (wrap64 ((ji4) + 1)) x8_1) = some (r1, r2) := by rw [if_pos rfl] at H; exact H
       clear H
       have H := H1
       clear H1
       have H' := Aside0.mk H
       clear H
       have p103 : 0 ≤ ((ji4) : Int) := of_decide_eq_true aS
       have q103 : (ji4) < (l0.length : Int) := of_decide_eq_true aS
       obtain ⟨ad103, e103, hx103_0⟩ := Kd.at_int HR0.out (ji4) p103 q103
       cases e103
       replace p103 := eq_true p103
       replace q103 := eq_true q103
       go_wp2_with (first | ((with_reducible refine gate_callee (f := 132) rfl ?_); refine goesL_ (some 27) rfl rfl Tryz.func132 (by kernel_rfl) rfl #[.int .u16 (rd l0 (ji4)), .int .u16 a1] rfl (by (try simp only [List.map_toArray, List.map_cons, List.map_nil]); first | done | (simp only [hji4]; rfl) | rfl | (simp only [List.length_drop, List.length_take]; rfl)) ?_; (with_reducible refine (cmp_Less_uint16.calls (rd l0 (ji4)) a1 true _ A7.out).mono ?_); rintro e w' ⟨rfl, ⟨nd, rfl⟩⟩; refine ⟨_, rfl, ?_⟩))
       go_roundg k1
       case measure => have := HK1.out; omega
       case rel => exact ⟨(wrap64 ((ji4) + 1)), (x8_1), (by first | rfl | (simp; done) | (simp only [← hji4] <;> (first | rfl | simp)) | (simp [*]; done)), eS, H', ⟨by have := HK1.out; omega⟩, dD⟩
      ·replace c8 := Bool.eq_false_iff.mpr c8
       subst c8
       have H1 : (unit_Units_uint16_112.l0 k1 l0 a1 (l0.length : Int) x7_1 ji4) = some (r1, r2) := by rw [if_neg (show ¬ (false = true) by decide)] at H; exact H
       clear H
       have H := H1
       clear H1
       have H' := Aside0.mk H
       clear H
       have p103 : 0 ≤ ((ji4) : Int) := of_decide_eq_true aS
       have q103 : (ji4) < (l0.length : Int) := of_decide_eq_true aS
       obtain ⟨ad103, e103, hx103_0⟩ := Kd.at_int HR0.out (ji4) p103 q103
       cases e103
       replace p103 := eq_true p103
       replace q103 := eq_true q103
       go_wp2_with (first | ((with_reducible refine gate_callee (f := 132) rfl ?_); refine goesL_ (some 27) rfl rfl Tryz.func132 (by kernel_rfl) rfl #[.int .u16 (rd l0 (ji4)), .int .u16 a1] rfl (by (try simp only [List.map_toArray, List.map_cons, List.map_nil]); first | done | (simp only [hji4]; rfl) | rfl | (simp only [List.length_drop, List.length_take]; rfl)) ?_; (with_reducible refine (cmp_Less_uint16.calls (rd l0 (ji4)) a1 false _ A7.out).mono ?_); rintro e w' ⟨rfl, ⟨nd, rfl⟩⟩; refine ⟨_, rfl, ?_⟩))
       go_roundg k1
       case measure => have := HK1.out; omega
       case rel => exact ⟨(x7_1), (ji4), eS, (by first | rfl | (simp; done) | (simp only [← hji4] <;> (first | rfl | simp)) | (simp [*]; done)), H', ⟨by have := HK1.out; omega⟩, dD⟩
     ·rw [if_neg c6] at H
      exact absurd H (by simp)
    ·rw [if_neg c5] at H
     exact absurd H (by simp)
   ·rw [if_neg c3] at H
    have c3b0 : decide (x7_1 < x8_1) = false := decide_eq_false c3
    clear c3
    by_cases c9 : x7_1 < (l0.length : Int)
    ·rw [if_pos c9] at H
     have c9b0 : decide (x7_1 < (l0.length : Int)) = true := decide_eq_true c9
     clear c9
     by_cases c10 : 0 ≤ x7_1
     ·rw [if_pos c10] at H
      have c10b0 : decide (0 ≤ x7_1) = true := decide_eq_true c10
      clear c10
      by_cases c11 : x7_1 < (l0.length : Int)
      ·rw [if_pos c11] at H
       have c11b0 : decide (x7_1 < (l0.length : Int)) = true := decide_eq_true c11
       clear c11
       by_cases c12 : (rd l0 x7_1) = a1
       ·rw [if_pos c12] at H
        have c12b0 : ((rd l0 x7_1) == a1) = true := beq_iff_eq.mpr c12
        have c12b1 : ((rd l0 x7_1) != a1) = false := bne_eq_false_iff_eq.mpr c12
        clear c12
        simp only [Option.some.injEq, Prod.mk.injEq] at H
        obtain ⟨rfl, rfl⟩ := H
        have p105 : 0 ≤ (x7_1 : Int) := of_decide_eq_true aS
        have q105 : x7_1 < (l0.length : Int) := of_decide_eq_true aS
        obtain ⟨ad105, e105, hx105_0⟩ := Kd.at_int HR0.out x7_1 p105 q105
        cases e105
        replace p105 := eq_true p105
        replace q105 := eq_true q105
        go_wp2
        go_ret2
        exact ⟨eS, dD⟩
       ·rw [if_neg c12] at H
        have c12b0 : ((rd l0 x7_1) == a1) = false := beq_eq_false_iff_ne.mpr c12
        have c12b1 : ((rd l0 x7_1) != a1) = true := bne_iff_ne.mpr c12
        replace H := Option.bind_eq_some_iff.mp H
        obtain ⟨t107, A130, H⟩ := H
        replace H : (if t107 = true then ((slices_isNaN_uint16.f a1).bind fun t108 => (some (x7_1, t108))) else (some (x7_1, false))) = some (r1, r2) := H
        have A13 := Aside0.mk A130
        clear A130
        by_cases c14 : t107 = true
        ·subst c14
         have H1 : ((slices_isNaN_uint16.f a1).bind fun t108 => (some (x7_1, t108))) = some (r1, r2) := by rw [if_pos rfl] at H; exact H
         clear H
         have H := H1
         clear H1
         replace H := Option.bind_eq_some_iff.mp H
         obtain ⟨t108, A150, H⟩ := H
         replace H : (some (x7_1, t108)) = some (r1, r2) := H
         have A15 := Aside0.mk A150
         clear A150
         simp only [Option.some.injEq, Prod.mk.injEq] at H
         obtain ⟨rfl, rfl⟩ := H
         have p105 : 0 ≤ (x7_1 : Int) := of_decide_eq_true aS
         have q105 : x7_1 < (l0.length : Int) := of_decide_eq_true aS
         obtain ⟨ad105, e105, hx105_0⟩ := Kd.at_int HR0.out x7_1 p105 q105
         cases e105
         replace p105 := eq_true p105
         replace q105 := eq_true q105
         have p106 : 0 ≤ (x7_1 : Int) := of_decide_eq_true aS
         have q106 : x7_1 < (l0.length : Int) := of_decide_eq_true aS
         obtain ⟨ad106, e106, hx106_0⟩ := Kd.at_int HR0.out x7_1 p106 q106
         obtain rfl : ad105 = ad106 := (by injection e106)
         replace p106 := eq_true p106
         replace q106 := eq_true q106
         go_wp2_with (first | (go_at_call 143; (with_reducible refine (slices_isNaN_uint16.calls (rd l0 x7_1) true _ A13.out).mono ?_); rintro e w' ⟨rfl, ⟨nd, rfl⟩⟩) | (go_at_call 143; (with_reducible refine (slices_isNaN_uint16.calls a1 t108 _ A15.out).mono ?_); rintro e w' ⟨rfl, ⟨nd, rfl⟩⟩))
         go_ret2
         exact ⟨eS, dD⟩
        ·replace c14 := Bool.eq_false_iff.mpr c14
         subst c14
         have H1 : (some (x7_1, false)) = some (r1, r2) := by rw [if_neg (show ¬ (false = true) by decide)] at H; exact H
         clear H
         have H := H1
         clear H1
         simp only [Option.some.injEq, Prod.mk.injEq] at H
         obtain ⟨rfl, rfl⟩ := H
         have p105 : 0 ≤ (x7_1 : Int) := of_decide_eq_true aS
         have q105 : x7_1 < (l0.length : Int) := of_decide_eq_true aS
         obtain ⟨ad105, e105, hx105_0⟩ := Kd.at_int HR0.out x7_1 p105 q105
         cases e105
         replace p105 := eq_true p105
         replace q105 := eq_true q105
         have p106 : 0 ≤ (x7_1 : Int) := of_decide_eq_true aS
         have q106 : x7_1 < (l0.length : Int) := of_decide_eq_true aS
         obtain ⟨ad106, e106, hx106_0⟩ := Kd.at_int HR0.out x7_1 p106 q106
         obtain rfl : ad105 = ad106 := (by injection e106)
         replace p106 := eq_true p106
         replace q106 := eq_true q106
         go_wp2_with (first | (go_at_call 143; (with_reducible refine (slices_isNaN_uint16.calls (rd l0 x7_1) false _ A13.out).mono ?_); rintro e w' ⟨rfl, ⟨nd, rfl⟩⟩))
         go_ret2
         exact ⟨eS, dD⟩
      ·rw [if_neg c11] at H
       exact absurd H (by simp)
     ·rw [if_neg c10] at H
      exact absurd H (by simp)
    ·rw [if_neg c9] at H
     have c9b0 : decide (x7_1 < (l0.length : Int)) = false := decide_eq_false c9
     clear c9
     simp only [Option.some.injEq, Prod.mk.injEq] at H
     obtain ⟨rfl, rfl⟩ := H
     go_wp2
     go_ret2
     exact ⟨eS, dD⟩

/-! ### unit_Units_uint16_57: function 57 -/
def unit_Units_uint16_57.f (l0 : List Int) : Option (List Int) := if l0.length < 1000000000000 then some l0 else none
theorem unit_Units_uint16_57.eqd {P : Program} (w : World) (d : Nat) (t e : TypeId) (a : Option Addr) (n c : Nat) (h : P.underlying t = some (.slice e)) :
    (Op.equalIn (d + 1) t (.slice a n c) (.slice none 0 0)).run P w = .ok a.isNone w := by
  cases a <;> simp [Op.equalIn, run_underlying h]
theorem unit_Units_uint16_57.eqg {P : Program} (w : World) (t e : TypeId) (a : Option Addr) (n c : Nat) (h : P.underlying t = some (.slice e)) :
    (binOp .eql t (.slice a n c) (.slice none 0 0)).run P w = .ok (.bool a.isNone) w := by
  simp only [binOp]
  simp [Op.equal, Op.maxDepth, unit_Units_uint16_57.eqd w 9999 t e a n c h]
theorem unit_Units_uint16_57.eqn (w : World) (a : Option Addr) (n c : Nat) : (binOp .eql 62 (.slice a n c) (.slice none 0 0)).run Tryz.prog w = .ok (.bool a.isNone) w := unit_Units_uint16_57.eqg w 62 26 a n c Tryz.underlying62
attribute [local go_sem] unit_Units_uint16_57.eqn
theorem unit_Units_uint16_57.calls (A0 : Option Addr) (c0 : Nat) (l0 : List Int) (r : List Int) (w : World) (hr0 : Kd.C (Kd.int .u16) w A0 l0.length l0) (hc0 : l0.length ≤ c0) (h : unit_Units_uint16_57.f l0 = some r) :
    Calls Tryz.prog 57 #[.slice A0 l0.length c0] w fun e w' => ∃ v0_ : Value, e = .returned (v0_) ∧ Kd.R (Kd.int .u16) 26 w' w.heap.size (fun _ => True) v0_ r ∧ Below w.heap.size w w' := by
  have hu := Tryz.underlying62
  unfold unit_Units_uint16_57.f at h
  split at h
  case isFalse => cases h
  rename_i hlim
  obtain rfl := Option.some.inj h
  have HR0 := Aside0.mk hr0
  clear hr0 h
  rcases A0 with _ | ad
  · have hl0 : l0 = [] := by
      rcases Nat.eq_zero_or_pos l0.length with h0 | h0
      · exact List.length_eq_zero_iff.1 h0
      · obtain ⟨ad, h, _⟩ := HR0.out.2.2 h0
        cases h
    subst hl0
    go_enter Tryz.func57, Tryz.ntmps57
    go_wp2
    go_ret
    exact ⟨_, rfl, Kd.R_nil _ _ _ _ _, Below.refl _ _⟩
  · go_enter Tryz.func57, Tryz.ntmps57
    go_wp2_with (first
      | ((with_reducible refine gate_dst (N := 5) rfl ?_); refine Kd.R_lit (Kd.int .u16) (w0 := w) w.heap.size 26 ?hg (N := 5) ?hd (xs := ([] : List Int)) (inner := []) (ok := fun _ => True) (okp := fun _ => True) ?hr ?hp (fun _ hk => hk) trivial (Below.refl _ _) (Nat.le_refl _) (by simp) ?_; (case hd => rfl); (case hg => rfl); (case hr => first | (go_simp; done) | (go_simp; rfl)); (case hp => exact Reps.none _ _); intro v5 w1 ho5 hb5 hg_ hnew_; have HO5 := Aside0.mk ho5; have HB := Aside0.mk hb5; clear ho5 hb5 hg_ hnew_; obtain ⟨Ao5, co5, eo5⟩ := Kd.R_slice HO5.out; subst eo5)
      | ((with_reducible refine gate_builtin (b := .append) (xs := #[.tmp 5, .tmp 6]) rfl ?_); at_builtin; refine Kd.R_append_rows (Kd.int .u16) (Rr := ((Kd.int .u16)).K w) (w0 := w) w.heap.size rfl (.tmp 5) (.tmp 6) 62 26 (.int .u16 0) 2 rfl Tryz.underlying62 info26 rfl (by decide) (by omega) (.slice Ao5 ([] : List Int).length co5) [] l0 (some ad) l0.length c0 (fun _ => True) (fun _ => False) rfl rfl ?aO ?aR ?aK (fun _ h => h.elim) (fun _ _ => trivial) ?aB ?aS ?aL ?_; (case aO => exact HO5.out); (case aR => exact ReadsRow.imp_ HR0.out HB.out (fun _ _ h => h)); (case aK => intro x cs hx; exact ((XMem.flatInt .u16)).M.2 (((XMem.flatInt .u16)).K.1 hx)); (case aB => exact HB.out); (case aS => exact below_size HB.out); (case aL => simp; omega); intro v7 w2 ho7 hb7 hg_ hnew_))
    go_ret
    exact ⟨_, rfl, ho7, hb7⟩


/-! ### unit_Units_uint16_113: function 113 -/
set_option maxHeartbeats 8000000 in
set_option maxRecDepth 100000 in
theorem unit_Units_uint16_113.end_ (w : World) (base : Nat) (v : Value) (n : Nat) (X V : List Value) (g : Nat) (hV : V.length = 1) (hown : w.ownsRow base 26 1 v n X) (hb : base ≤ w.heap.size) (hg : w.heap[g]? = some (.cells V.toArray 26 (0, 0))) (h1 : ∀ u ∈ V, u.oneCell' = true) (hn : n < 1000000000000) :
    Calls Tryz.prog 113 #[v, .int .i64 n, .slice (some ⟨g, 0, none⟩) 1 1] w fun e w' => ∃ v', e = .returned v' ∧ w'.ownsRow base 26 1 v' (n + 1) (X ++ V) ∧ w.grownBy w' v.ownBlock ∧ (v'.ownBlock = v.ownBlock ∨ v'.ownBlock = some w.heap.size) := by
  obtain ⟨i0, hi0, hzz⟩ := Option.map_eq_some_iff.1 info26
  simp only [Prod.mk.injEq] at hzz
  obtain ⟨hz0, hz1, hz2⟩ := hzz
  obtain ⟨v', w', hr, r1, r2, r3⟩ := XMem.append_own (P := Tryz.prog) w base 62 53 62 26 26 i0 _ 1 2 Tryz.underlying62 Tryz.underlying53 hi0 hz0 hz1 hz2 rfl (by decide) v n X hown ⟨g, 0, none⟩ 1 1 (by decide) V (by omega) (fun j u hj => by
    have hadd : (⟨g, 0, none⟩ : Addr).add j = ⟨g, j, none⟩ := by unfold Addr.add; split <;> simp_all
    rw [hadd, cell_of_row w g j _ 26 (0, 0) hg]
    simpa using hj) h1 (by omega) hb
  have hsl : ∃ A c, v = .slice A n c ∧ n ≤ c := by
    rcases hown.2 with ⟨rfl, rfl⟩ | ⟨g', cap, cur, rfl, _, _, hnc, _⟩
    · exact ⟨_, _, rfl, Nat.le_refl _⟩
    · exact ⟨_, _, rfl, hnc⟩
  obtain ⟨A, c, rfl, hnc⟩ := hsl
  rcases A with _ | ad
  · go_enter Tryz.func113, Tryz.ntmps113
    go_wp2_with (at_builtin; refine XMem.wpList_run_append rfl _ _ 62 53 rfl _ _ rfl rfl hr ?_)
    all_goals (go_ret; exact ⟨_, rfl, r1, r2, r3⟩)
  · go_enter Tryz.func113, Tryz.ntmps113
    go_wp2_with (at_builtin; refine XMem.wpList_run_append rfl _ _ 62 53 rfl _ _ rfl rfl hr ?_)
    all_goals (go_ret; exact ⟨_, rfl, r1, r2, r3⟩)
set_option maxHeartbeats 8000000 in
set_option maxRecDepth 100000 in
theorem unit_Units_uint16_113.shift (w : World) (base : Nat) (gs n c i : Nat) (cur : Array Value) (X Y V : List Value) (g : Nat) (hi : i < n) (hX : X.length = i) (hY : Y.length = (n - i)) (hV : V.length = 1) (hgs : w.heap[gs]? = some (.cells cur 26 (0, 0))) (hcs : cur.size = c) (htk : cur.toList.take (n) = X ++ Y)
    (hroom : n + 1 ≤ c) (hcm : c ≤ maxLen) (hg : w.heap[g]? = some (.cells V.toArray 26 (0, 0))) (hne : g ≠ gs) (h1 : ∀ u ∈ V, u.oneCell' = true) (h2 : ∀ u ∈ Y, u.oneCell' = true) :
    Calls Tryz.prog 113 #[.slice (some ⟨gs, 0, none⟩) n c, .int .i64 i, .slice (some ⟨g, 0, none⟩) 1 1] w fun e w' => e = .returned (.slice (some ⟨gs, 0, none⟩) (n + 1) c) ∧ ∃ cur' : Array Value, w'.heap[gs]? = some (.cells cur' 26 (0, 0)) ∧ cur'.size = c ∧ cur'.toList.take ((n + 1)) = X ++ V ++ Y ∧ w.grownBy w' (some gs) := by
  obtain ⟨i0, hi0, hzz⟩ := Option.map_eq_some_iff.1 info26
  simp only [Prod.mk.injEq] at hzz
  obtain ⟨hz0, hz1, hz2⟩ := hzz
  have hcx : n + 1 ≤ 9223372036854775807 := by simp only [maxLen] at hcm; omega
  have hcx2 : c ≤ 9223372036854775807 := by simp only [maxLen] at hcm; omega
  have hov : ∀ lb cb, (callFunc 144 #[.slice (some ⟨g, 0, none⟩) 1 1, .slice (some ⟨gs, (i + 1), none⟩) lb cb]).run Tryz.prog w = .ok (.value (.bool false)) w := fun lb cb => by
    rw [run_callFunc_extern Tryz.func144 (by kernel_rfl) (by kernel_rfl) (by kernel_rfl) (e := Extern.SlicesOverlaps.overlaps #[53, 53] #[4]) (by kernel_rfl),
      Lib.run_overlaps_apart w 53 4 26 Tryz.underlying53 1 (fun w => by simp [Go.sizeOf, typeInfo, hi0, hz1]) ⟨g, 0, none⟩ ⟨gs, (i + 1), none⟩ 1 1 lb cb hne 26 26 1 cur.size (by simp [World.shape?, hg, hV]) (by simp [World.shape?, hgs]) (by omega) (by simp [World.frozen?, hg]) (by simp [World.frozen?, hg])]
    rfl
  have hcell : ∀ j u, Y[j]? = some u → w.cell? ((⟨gs, i, none⟩ : Addr).add j) = some u := fun j u hj => by
    rw [Addr.add_lit, cell_of_row w gs _ cur 26 (0, 0) hgs]
    have hjl := (List.getElem?_eq_some_iff.1 hj).1
    have : (cur.toList.take (n))[i + j]? = some u := by
      rw [htk, List.getElem?_append_right (by omega), hX]
      simpa using hj
    rw [List.getElem?_take] at this
    split at this
    · simpa using this
    · cases this
  have hlim : n + 1 ≤ cur.size := by rw [hcs]; omega
  have hcp1 : ∀ ty dc sc, (Builtin.copy_ #[62, 62] ty #[.slice (some ⟨gs, (i + 1), none⟩) (n - i) dc, .slice (some ⟨gs, i, none⟩) (n + 1 - i) sc]).run Tryz.prog w.drew = .ok (goInt ((n - i : Nat) : Int)) (w.drew.setRow gs (cur.toList.take ((i + 1)) ++ Y ++ cur.toList.drop ((i + 1) + Y.length)).toArray) := fun ty dc sc =>
    XMem.copy_run w.drew 62 62 ty 26 i0 Tryz.underlying62 hi0 gs ((i + 1)) cur 26 hgs (n - i) dc ⟨gs, i, none⟩ (n + 1 - i) sc (n - i) Y (by show min _ _ = _; omega) (by first | (rw [hY, hz1]; done) | (rw [hY, hz1]; simp)) hcell (by rw [hY]; omega) h2
  obtain ⟨cur1, hcur1⟩ : ∃ cur1, cur1 = (cur.toList.take ((i + 1)) ++ Y ++ cur.toList.drop ((i + 1) + Y.length)).toArray := ⟨_, rfl⟩
  rw [← hcur1] at hcp1
  have hs1 : cur1.size = c := by
    rw [hcur1, ← hcs]
    simp only [List.size_toArray, List.length_append, List.length_take, List.length_drop, Array.length_toList]
    omega
  have hX0 : cur.toList.take (i) = X := by
    have : (cur.toList.take (n)).take (i) = X := by rw [htk, ← hX, List.take_left]
    rwa [List.take_take, Nat.min_eq_left (by omega)] at this
  have hta : cur1.toList.take (i) = X := by
    rw [hcur1, List.append_assoc, List.take_append_of_le_length (by simp only [List.length_take, Array.length_toList]; omega), List.take_take, Nat.min_eq_left (by omega), hX0]
  have htb : cur1.toList.drop (i + V.length) = Y ++ cur.toList.drop ((i + 1) + Y.length) := by
    rw [hcur1, List.append_assoc]
    have hl : (cur.toList.take ((i + 1))).length = i + V.length := by rw [List.length_take, Array.length_toList]; omega
    show List.drop _ (_ ++ (_ ++ _)) = _
    rw [← hl, List.drop_left]
  clear hcur1
  obtain ⟨W1, hW1⟩ : ∃ W1, W1 = w.drew.setRow gs cur1 := ⟨_, rfl⟩
  have hg1 : W1.heap[gs]? = some (.cells cur1 26 (0, 0)) := by rw [hW1]; exact setRow_heap w.drew gs cur cur1 26 (0, 0) hgs
  have hgv : W1.heap[g]? = some (.cells V.toArray 26 (0, 0)) := by rw [hW1, XMem.setRow_other _ _ _ _ hne]; exact hg
  have hcp2 : ∀ (W : World), W.heap = W1.heap → ∀ ty dc, (Builtin.copy_ #[62, 53] ty #[.slice (some ⟨gs, i, none⟩) (n + 1 - i) dc, .slice (some ⟨g, 0, none⟩) 1 1]).run Tryz.prog W = .ok (goInt 1) (W.setRow gs (cur1.toList.take (i) ++ V ++ cur1.toList.drop (i + V.length)).toArray) := fun W hW ty dc =>
    XMem.copy_run W 62 53 ty 26 i0 Tryz.underlying62 hi0 gs (i) cur1 26 (by rw [hW]; exact hg1) (n + 1 - i) dc ⟨g, 0, none⟩ 1 1 1 V (by show min _ _ = _; omega) (by first | (rw [hV, hz1]; done) | (rw [hV, hz1]; simp))
      (fun j u hj => by
        rw [Addr.add_lit, Nat.zero_add, cell_of_row W g j _ 26 (0, 0) (by rw [hW]; exact hgv)]
        simpa using hj) (by rw [hV, hs1]; omega) h1
  have mixed : Tryz.prog.follows Departure.mixedOrders = true := by kernel_rfl
  have hend : ∃ cur' : Array Value, cur' = (cur1.toList.take (i) ++ V ++ cur1.toList.drop (i + V.length)).toArray ∧ cur'.size = c ∧ cur'.toList.take ((n + 1)) = X ++ V ++ Y := by
    refine ⟨_, rfl, ?_, ?_⟩
    · simp only [List.size_toArray, List.length_append, List.length_take, List.length_drop, Array.length_toList]
      omega
    · show List.take _ (_ ++ _ ++ _) = _
      rw [hta, htb, ← List.append_assoc, show (n + 1) = (X ++ V ++ Y).length by simp only [List.length_append]; omega, List.take_left]
  obtain ⟨cur2, hcur2, hs2, ht2⟩ := hend
  rw [← hcur2] at hcp2
  rw [← hW1] at hcp1
  have hheap : W1.heap = (W1 : World).heap := rfl
  have hgr : w.drew.grownBy W1 (some gs) := by rw [hW1]; exact XMem.setRow_grown _ _ _
  have hgr0 : w.grownBy W1 (some gs) := ⟨hgr.os, hgr.tape, hgr.output, hgr.size, hgr.block⟩
  clear hW1 hcur2 hta htb hX0 htk hs1
  have hz1' : ¬ ((1 : Int) = 0) := by omega
  have hz2' : ¬ ((i : Int) = (n : Int)) := by omega
  have hw1 : IntKind.i64.wrap ((i : Int) + 1) = (i : Int) + 1 := by rw [IntKind.wrap_i64]; omega
  have hb1 : (0 : Int) ≤ (i : Int) + 1 := by omega
  have hin : i ≤ n := by omega
  have htn : ((i : Int) + 1).toNat = i + 1 := by omega
  have hb2 : ¬ (c = i + 1) := by omega
  have hb3 : (i : Int) ≤ (n : Int) + 1 := by omega
  have hb4 : ¬ (c = i) := by omega
  go_enter Tryz.func113, Tryz.ntmps113
  go_wp2_with (simp only [hov])
  go_region_law_o (refine XMem.step_copy rfl _ _ 62 62 rfl _ _ (by simp [Act.eval, Act.put]) (by simp [Act.eval, Act.put]) (hcp1 _ _ _) ?_)
  go_wp2_with (at_builtin; refine XMem.wpList_copy _ rfl _ _ 62 53 rfl _ _ rfl rfl (hcp2 _ rfl _ _) ?_)
  go_ret
  refine ⟨rfl, cur2, ?_, hs2, ht2, ?_⟩
  · exact setRow_heap _ gs cur1 cur2 26 (0, 0) hg1
  · exact hgr0.trans (XMem.setRow_grown _ _ _)
set_option maxHeartbeats 8000000 in
set_option maxRecDepth 100000 in
theorem unit_Units_uint16_113.grow (w : World) (base : Nat) (gs n c i : Nat) (cur : Array Value) (X Y V : List Value) (g : Nat) (hi : i < n) (hX : X.length = i) (hY : Y.length = (n - i)) (hV : V.length = 1) (hgs : w.heap[gs]? = some (.cells cur 26 (0, 0))) (hcs : cur.size = c) (htk : cur.toList.take (n) = X ++ Y)
    (hnc : n ≤ c) (hroom : c < n + 1) (hcm : n < 1000000000000) (hg : w.heap[g]? = some (.cells V.toArray 26 (0, 0))) (h1 : ∀ u ∈ V, u.oneCell' = true) (h2 : ∀ u ∈ Y, u.oneCell' = true) :
    Calls Tryz.prog 113 #[.slice (some ⟨gs, 0, none⟩) n c, .int .i64 i, .slice (some ⟨g, 0, none⟩) 1 1] w fun e w' => ∃ c', e = .returned (.slice (some ⟨w.heap.size, 0, none⟩) (n + 1) c') ∧ n + 1 ≤ c' ∧ c' ≤ maxLen ∧ ∃ cur' : Array Value, w'.heap[w.heap.size]? = some (.cells cur' 26 (0, 0)) ∧ cur'.size = c' ∧ cur'.toList.take ((n + 1)) = X ++ V ++ Y ∧ w.grownBy w' none := by
  obtain ⟨i0, hi0, hzz⟩ := Option.map_eq_some_iff.1 info26
  simp only [Prod.mk.injEq] at hzz
  obtain ⟨hz0, hz1, hz2⟩ := hzz
  obtain ⟨z, hz⟩ : ∃ z, i0.zero = some z := ⟨_, hz0⟩
  have hzs : z.cells.size = 1 := by
    rw [hz0] at hz
    obtain rfl := Option.some.inj hz
    rfl
  have hcell : ∀ k j u, (cur.toList.take (n))[k + j]? = some u → w.cell? ((⟨gs, k, none⟩ : Addr).add j) = some u := fun k j u hj => by
    rw [Addr.add_lit, cell_of_row w gs _ cur 26 (0, 0) hgs]
    rw [List.getElem?_take] at hj
    split at hj
    · simpa using hj
    · cases hj
  have hold : (Builtin.firstCells i0.size i (.slice (some ⟨gs, 0, none⟩) i c)).run Tryz.prog w.drew = .ok X.toArray w.drew :=
    run_firstCells_some w.drew i0.size i ⟨gs, 0, none⟩ i c X (by first | (rw [hX, hz1]; done) | (rw [hX, hz1]; simp)) (fun j u hj => hcell 0 j u (by rw [Nat.zero_add, htk, List.getElem?_append_left (List.getElem?_eq_some_iff.1 hj).1]; exact hj))
  have hkk : (n : Int) + 1 - (i : Int) = ((n + 1 - i : Nat) : Int) := by omega
  have hik : i + (n + 1 - i) = n + 1 := by omega
  have hby : (n + 1) * 2 ≤ 140737488355328 := by omega
  have hfit := growslice_fits hroom hby
  have hrz : ∀ ty, (Builtin.append_ #[62, 3] ty #[.slice (some ⟨gs, 0, none⟩) i c, .int .i64 ((n : Int) + 1 - (i : Int))]).run Tryz.prog w =
      .ok (.slice (some ⟨w.heap.size, 0, none⟩) (n + 1) (grownCap w (n + 1) c 26)) (w.drew.alloc (.cells (X.toArray ++ Builtin.zeroCells z.cells (n + 1 - i) ++ Builtin.zeroCells z.cells (grownCap w (n + 1) c 26 - (n + 1))) 26)) := fun ty => by
    have h := Lib.run_append_grow_zeros w 62 3 ty 26 i0 z .i64 .i64 Tryz.underlying62 Tryz.underlying3 hi0 hz (some ⟨gs, 0, none⟩) i c X hold (n + 1 - i) (by omega) (by omega) (by omega) (by omega) (by rw [hz2]; omega) (by rw [hz2, hik]; exact hfit)
    rw [hik] at h
    rw [hkk]
    exact h
  obtain ⟨G, hG⟩ : ∃ G, G = grownCap w (n + 1) c 26 := ⟨_, rfl⟩
  have hGn : n + 1 ≤ G := by rw [hG]; exact grownCap_ge w _ _ _
  have hGm : G ≤ maxLen := by rw [hG]; exact grownCap_le_maxLen w (n + 1) c 26 (by simp only [maxLen]; omega)
  have hG63 : G ≤ 9223372036854775807 := by simp only [maxLen] at hGm; omega
  obtain ⟨ROW, hROW⟩ : ∃ ROW : Array Value, ROW = X.toArray ++ Builtin.zeroCells z.cells (n + 1 - i) ++ Builtin.zeroCells z.cells (G - (n + 1)) := ⟨_, rfl⟩
  rw [← hG, ← hROW] at hrz
  have hRs : ROW.size = G := by
    rw [hROW]
    simp only [Array.size_append, List.size_toArray, size_zeroCells, hzs, hX]
    omega
  have hRt : ROW.toList.take (i) = X := by
    rw [hROW, Array.toList_append, Array.toList_append, List.append_assoc, ← hX]
    exact List.take_left
  obtain ⟨W1, hW1⟩ : ∃ W1, W1 = w.drew.alloc (.cells ROW 26) := ⟨_, rfl⟩
  have hgr : w.grownBy W1 none := by
    rw [hW1]
    exact ⟨rfl, rfl, rfl, by simp, fun k hk _ => heap_alloc_old w.drew _ hk⟩
  have hN : W1.heap[w.heap.size]? = some (.cells ROW 26 (0, 0)) := by rw [hW1]; exact heap_alloc_new w.drew _
  have lt_of : ∀ {k : Nat} {o : Obj}, w.heap[k]? = some o → k < w.heap.size := fun h => (Array.getElem?_eq_some_iff.1 h).1
  have hgw : W1.heap[g]? = some (.cells V.toArray 26 (0, 0)) := (hgr.block g (lt_of hg) (by simp)).trans hg
  have hgsw : W1.heap[gs]? = some (.cells cur 26 (0, 0)) := (hgr.block gs (lt_of hgs) (by simp)).trans hgs
  have hgsn : gs ≠ w.heap.size := Nat.ne_of_lt (lt_of hgs)
  rw [← hW1] at hrz
  have hcpA : ∀ (W : World), W.heap = W1.heap → ∀ ty dc, (Builtin.copy_ #[62, 53] ty #[.slice (some ⟨w.heap.size, i, none⟩) (n + 1 - i) dc, .slice (some ⟨g, 0, none⟩) 1 1]).run Tryz.prog W = .ok (goInt 1) (W.setRow w.heap.size (ROW.toList.take (i) ++ V ++ ROW.toList.drop (i + V.length)).toArray) := fun W hW ty dc =>
    XMem.copy_run W 62 53 ty 26 i0 Tryz.underlying62 hi0 w.heap.size (i) ROW 26 (by rw [hW]; exact hN) (n + 1 - i) dc ⟨g, 0, none⟩ 1 1 1 V (by show min _ _ = _; omega) (by first | (rw [hV, hz1]; done) | (rw [hV, hz1]; simp))
      (fun j u hj => by
        rw [Addr.add_lit, Nat.zero_add, cell_of_row W g j _ 26 (0, 0) (by rw [hW]; exact hgw)]
        simpa using hj) (by rw [hV, hRs]; omega) h1
  obtain ⟨R1, hR1⟩ : ∃ R1, R1 = (ROW.toList.take (i) ++ V ++ ROW.toList.drop (i + V.length)).toArray := ⟨_, rfl⟩
  rw [← hR1] at hcpA
  have hR1s : R1.size = G := by
    rw [hR1, ← hRs]
    simp only [List.size_toArray, List.length_append, List.length_take, List.length_drop, Array.length_toList]
    omega
  have hR1t : R1.toList.take ((i + 1)) = X ++ V := by
    rw [hR1, hRt, show (i + 1) = (X ++ V).length by rw [List.length_append]; omega]
    exact List.take_left
  clear hR1 hROW
  have hcpB : ∀ (W W2 : World), W2.heap = W1.heap → W.heap = (W2.setRow w.heap.size R1).heap → ∀ ty dc sc, (Builtin.copy_ #[62, 62] ty #[.slice (some ⟨w.heap.size, (i + 1), none⟩) (n - i) dc, .slice (some ⟨gs, i, none⟩) (n - i) sc]).run Tryz.prog W = .ok (goInt ((n - i : Nat) : Int)) (W.setRow w.heap.size (R1.toList.take ((i + 1)) ++ Y ++ R1.toList.drop ((i + 1) + Y.length)).toArray) := fun W W2 hW2 hW ty dc sc =>
    XMem.copy_run W 62 62 ty 26 i0 Tryz.underlying62 hi0 w.heap.size ((i + 1)) R1 26 (by rw [hW]; exact setRow_heap W2 _ ROW R1 26 (0, 0) (by rw [hW2]; exact hN)) (n - i) dc ⟨gs, i, none⟩ (n - i) sc (n - i) Y (by show min _ _ = _; omega) (by first | (rw [hY, hz1]; done) | (rw [hY, hz1]; simp))
      (fun j u hj => by
        have hb : W.heap[gs]? = some (.cells cur 26 (0, 0)) := by rw [hW, XMem.setRow_other _ _ _ _ hgsn, hW2]; exact hgsw
        rw [Addr.add_lit, cell_of_row W gs _ cur 26 (0, 0) hb]
        have hjl := (List.getElem?_eq_some_iff.1 hj).1
        have : (cur.toList.take (n))[i + j]? = some u := by
          rw [htk, List.getElem?_append_right (by omega), hX]
          simpa using hj
        rw [List.getElem?_take] at this
        split at this
        · simpa using this
        · cases this) (by rw [hY, hR1s]; omega) h2
  have hend : ∃ cur' : Array Value, cur' = (R1.toList.take ((i + 1)) ++ Y ++ R1.toList.drop ((i + 1) + Y.length)).toArray ∧ cur'.size = G ∧ cur'.toList.take ((n + 1)) = X ++ V ++ Y := by
    refine ⟨_, rfl, ?_, ?_⟩
    · simp only [List.size_toArray, List.length_append, List.length_take, List.length_drop, Array.length_toList]
      omega
    · show List.take _ (_ ++ _ ++ _) = _
      rw [hR1t, show (n + 1) = (X ++ V ++ Y).length by simp only [List.length_append]; omega, List.take_left]
  obtain ⟨R2, hR2, hR2s, hR2t⟩ := hend
  rw [← hR2] at hcpB
  clear hR2 hR1t hRt hW1 hG hold hkk htk hcell hik hfit
  have mixed : Tryz.prog.follows Departure.mixedOrders = true := by kernel_rfl
  have hz1' : ¬ ((1 : Int) = 0) := by omega
  have hz2' : ¬ ((i : Int) = (n : Int)) := by omega
  have hz3' : (c : Int) < (n : Int) + 1 := by omega
  have hw1 : IntKind.i64.wrap ((i : Int) + 1) = (i : Int) + 1 := by rw [IntKind.wrap_i64]; omega
  have hb1 : (0 : Int) ≤ (i : Int) + 1 := by omega
  have hin : i ≤ n := by omega
  have htn : ((i : Int) + 1).toNat = i + 1 := by omega
  have hb3 : (i : Int) ≤ (n : Int) := by omega
  have hb4 : ¬ (c = i) := by omega
  have hGi : ¬ (G = i) := by omega
  have hGim : ¬ (G = i + 1) := by omega
  go_enter Tryz.func113, Tryz.ntmps113
  go_wp2_with (first
    | (at_builtin; refine XMem.wpList_run_append rfl _ _ 62 3 rfl _ _ rfl rfl (hrz _) ?_)
    | (at_builtin; refine XMem.wpList_copy _ rfl _ _ 62 53 rfl _ _ rfl rfl (hcpA _ rfl _ _) ?_))
  go_region_law_o (refine XMem.step_copy rfl _ _ 62 62 rfl (.slice (some ⟨w.heap.size, (i + 1), none⟩) (n - i) (G - (i + 1))) (.slice (some ⟨gs, i, none⟩) (n - i) (c - i)) (by simp [Act.eval, Act.put]) (by simp [Act.eval, Act.put]) (hcpB (W1.setRow w.heap.size R1).drew W1 rfl rfl 3 (G - (i + 1)) (c - i)) ?_)
  go_wp2
  trace_state
  go_ret
  have hW2 : ((W1.setRow w.heap.size R1).setRow w.heap.size R2).heap[w.heap.size]? = some (.cells R2 26 (0, 0)) := setRow_heap _ _ R1 R2 26 (0, 0) (setRow_heap _ _ ROW R1 26 (0, 0) hN)
  refine ⟨G, rfl, hGn, hGm, R2, ?_, hR2s, hR2t, ?_⟩
  · exact hW2
  · refine ⟨hgr.os, hgr.tape, hgr.output, ?_, fun k hk _ => ?_⟩
    · show w.heap.size ≤ ((W1.setRow w.heap.size R1).setRow w.heap.size R2).heap.size
      rw [XMem.setRow_size, XMem.setRow_size]
      exact hgr.size
    · show ((W1.setRow w.heap.size R1).setRow w.heap.size R2).heap[k]? = _
      rw [XMem.setRow_other _ _ _ _ (Nat.ne_of_lt hk), XMem.setRow_other _ _ _ _ (Nat.ne_of_lt hk)]
      exact hgr.block k hk (by simp)
theorem insU.own (w : World) (base : Nat) (v : Value) (n i : Nat) (X Y V : List Value) (g : Nat) (hi : i ≤ n) (hX : X.length = i) (hY : Y.length = (n - i)) (hV : V.length = 1) (hown : w.ownsRow base 26 1 v n (X ++ Y)) (hb : base ≤ w.heap.size) (hg : w.heap[g]? = some (.cells V.toArray 26 (0, 0))) (hne : v.ownBlock ≠ some g)
    (h1 : ∀ u ∈ V, u.oneCell' = true) (h2 : ∀ u ∈ Y, u.oneCell' = true) (hn : n < 1000000000000) :
    Calls Tryz.prog 113 #[v, .int .i64 i, .slice (some ⟨g, 0, none⟩) 1 1] w fun e w' => ∃ v', e = .returned v' ∧ w'.ownsRow base 26 1 v' (n + 1) (X ++ V ++ Y) ∧ w.grownBy w' v.ownBlock ∧ (v'.ownBlock = v.ownBlock ∨ v'.ownBlock = some w.heap.size) := by
  rcases Nat.lt_or_ge i n with hlt | hge
  · rcases hown.2 with ⟨rfl, rfl⟩ | ⟨gs, c, cur, rfl, hbg, hgs, hnc, hcm, hcs, htk⟩
    · exact absurd hlt (Nat.not_lt_zero _)
    · have hcs' : cur.size = c := by simpa using hcs
      have htk' : cur.toList.take (n) = X ++ Y := by simpa using htk
      rcases Nat.lt_or_ge c (n + 1) with hroom | hroom
      · refine (unit_Units_uint16_113.grow w base gs n c i cur X Y V g hlt hX hY hV hgs hcs' htk' hnc hroom hn hg h1 h2).mono ?_
        rintro e w' ⟨c', rfl, q1, q2, cur', q3, q4, q5, q6⟩
        refine ⟨_, rfl, ⟨?_, .inr ⟨_, c', cur', rfl, hb, q3, q1, q2, by simpa using q4, by simpa using q5⟩⟩, ⟨q6.os, q6.tape, q6.output, q6.size, fun k hk _ => q6.block k hk (by simp)⟩, .inr rfl⟩
        simp only [List.length_append, hX, hY, hV]
        omega
      · refine (unit_Units_uint16_113.shift w base gs n c i cur X Y V g hlt hX hY hV hgs hcs' htk' hroom hcm hg (fun e => hne (by rw [e]; rfl)) h1 h2).mono ?_
        rintro e w' ⟨rfl, cur', q3, q4, q5, q6⟩
        refine ⟨_, rfl, ⟨?_, .inr ⟨_, c, cur', rfl, hbg, q3, hroom, hcm, by simpa using q4, by simpa using q5⟩⟩, q6, .inl rfl⟩
        simp only [List.length_append, hX, hY, hV]
        omega
  · obtain rfl : i = n := Nat.le_antisymm hi hge
    have hY0 : Y = [] := List.eq_nil_of_length_eq_zero (by rw [hY]; simp)
    subst hY0
    rw [List.append_nil] at hown
    refine (unit_Units_uint16_113.end_ w base v i X V g hV hown hb hg h1 hn).mono ?_
    rintro e w' ⟨v', rfl, q1, q2, q3⟩
    exact ⟨v', rfl, by rw [List.append_nil]; exact q1, q2, q3⟩

/-! ### unit_Units_With: function 90 -/
def unit_Units_With.f (k : Nat) (l0 : List Int) (a1 : Int) : Option (List Int) :=
  (unit_Units_uint16_112.f k l0 a1).bind fun t => if l0.length < 1000000000 then (if t.2 = true then some l0 else (if 0 ≤ t.1 then (if t.1 ≤ (l0.length : Int) then some (l0.take t.1.toNat ++ [a1] ++ l0.drop t.1.toNat) else none) else none)) else none
theorem unit_Units_With.mono : ∀ a0 a1 k, LeO (unit_Units_With.f k a0 a1) (unit_Units_With.f (k + 1) a0 a1) := by
  intro a0 a1 k
  unfold unit_Units_With.f
  exact LeO.bind (unit_Units_uint16_112.mono _ _ _) (fun _ => LeO.refl _)
set_option maxHeartbeats 8000000 in
set_option maxRecDepth 100000 in
theorem unit_Units_With.calls (k : Nat) (A0 : Option Addr) (c0 : Nat) (l0 : List Int) (a1 : Int) (r : List Int) (w : World) (hr0 : Kd.C (Kd.int .u16) w A0 l0.length l0) (hc0 : l0.length ≤ c0) (h : unit_Units_With.f k l0 a1 = some r) :
    Calls Tryz.prog 90 #[.slice A0 l0.length c0, .int .u16 a1] w fun e w' => ∃ v0_ : Value, e = .returned (v0_) ∧ Kd.R (Kd.int .u16) 26 w' w.heap.size (fun _ => True) v0_ r ∧ Below w.heap.size w w' := by
  have HR0 := Aside0.mk hr0
  have HC0 := Aside0.mk hc0
  clear hr0 hc0
  have HB := Aside0.mk (Below.refl w.heap.size w)
  unfold unit_Units_With.f at h
  obtain ⟨⟨ti, tok⟩, A10, H⟩ := Option.bind_eq_some_iff.mp h
  have A1 := Aside0.mk A10
  clear h A10
  by_cases hlen : l0.length < 1000000000
  case neg => rw [if_neg hlen] at H; cases H
  rw [if_pos hlen] at H
  have HCl : unit_Units_uint16_57.f l0 = some l0 := if_pos (by omega)
  cases tok
  · rw [if_neg (by simp)] at H
    by_cases h0 : 0 ≤ ti
    case neg => rw [if_neg h0] at H; cases H
    rw [if_pos h0] at H
    obtain ⟨q, rfl⟩ := Int.eq_ofNat_of_zero_le h0
    by_cases hq : (q : Int) ≤ (l0.length : Int)
    case neg => rw [if_neg hq] at H; cases H
    rw [if_pos hq] at H
    obtain rfl := Option.some.inj H
    clear H
    go_enter Tryz.func90, Tryz.ntmps90
    go_wp2_with (first
      | (go_at_call 112; (with_reducible refine (unit_Units_uint16_112.calls k _ _ l0 a1 q false _ ?side1 ?side2 A1.out).mono ?_); (case side1 => exact Kd.C_below HR0.out HB.out); (case side2 => exact HC0.out); rintro e w5 ⟨rfl, hd⟩; have hb := hd.below; have n0_ := Aside0.mk (below_step HB.out hb); clear HB hb hd; have HB := n0_; clear n0_)
      | (go_at_call 57; (with_reducible refine (unit_Units_uint16_57.calls _ _ l0 l0 _ ?side1 ?side2 HCl).mono ?_); (case side1 => exact Kd.C_below HR0.out (by repeat (first | exact HB.out | apply below_alloc | apply pw_below_drewN | apply below_drew1))); (case side2 => exact HC0.out); rintro e w6 ⟨v1, rfl, ho, hb⟩; have n0_ := Aside0.mk (Kd.R_lower ho (below_size (by repeat (first | exact HB.out | apply below_alloc | apply pw_below_drewN | apply below_drew1)))); have n1_ := Aside0.mk (below_step (by repeat (first | exact HB.out | apply below_alloc | apply pw_below_drewN | apply below_drew1)) hb); clear HB ho hb; have HO := n0_; have HB := n1_; clear n0_ n1_))
    have hown := (XMem.flatInt .u16).own HO.out
    have hbw := below_size HB.out
    have hl1 : ∀ xs : List Int, (xs.flatMap (fun x => [Value.int .u16 x])).length = xs.length := fun xs => (XMem.flat_len (XMem.flatInt .u16) w xs).trans (Nat.mul_one _)
    refine (insU.own _ w.heap.size v1 l0.length q ((l0.take q).flatMap (fun x => [Value.int .u16 x])) ((l0.drop q).flatMap (fun x => [Value.int .u16 x])) [.int .u16 a1] _ (by omega) (by rw [hl1, List.length_take]; omega) (by rw [hl1, List.length_drop]) rfl ?_ ?_ (heap_alloc_new _ _) ?_ ?_ ?_ (by omega)).mono ?_
    · rw [← List.flatMap_append, List.take_append_drop]
      exact hown.alloc _
    · simp; omega
    · intro e
      have := hown.lt _ e
      simp at this
    · intro u hu; simp at hu; rcases hu with rfl; rfl
    · exact XMem.flat_one (XMem.flatInt .u16) w _
    rintro e w8 ⟨v', rfl, q1, q2, q3⟩
    go_wp2
    go_ret
    have hb8 : Below w.heap.size w w8 := Below.grown (below_alloc HB.out _) q2 (by simp; omega) (fun k hk => (hown.lt k hk).1)
    refine ⟨_, rfl, (XMem.flatInt .u16).make ?_ (fun _ _ => trivial), hb8⟩
    rw [Int.toNat_natCast, List.flatMap_append, List.flatMap_append]
    have hl : (l0.take q ++ [a1] ++ l0.drop q).length = l0.length + 1 := by
      simp only [List.length_append, List.length_take, List.length_drop, List.length_cons, List.length_nil]
      omega
    rw [hl]
    exact q1
  · rw [if_pos rfl] at H
    obtain rfl := Option.some.inj H
    clear H
    go_enter Tryz.func90, Tryz.ntmps90
    go_wp2_with (first
      | (go_at_call 112; (with_reducible refine (unit_Units_uint16_112.calls k _ _ l0 a1 ti true _ ?side1 ?side2 A1.out).mono ?_); (case side1 => exact Kd.C_below HR0.out HB.out); (case side2 => exact HC0.out); rintro e w5 ⟨rfl, hd⟩; have hb := hd.below; have n0_ := Aside0.mk (below_step HB.out hb); clear HB hb hd; have HB := n0_; clear n0_)
      | (go_at_call 57; (with_reducible refine (unit_Units_uint16_57.calls _ _ l0 l0 _ ?side1 ?side2 HCl).mono ?_); (case side1 => exact Kd.C_below HR0.out HB.out); (case side2 => exact HC0.out); rintro e w6 ⟨v1, rfl, ho, hb⟩; have n0_ := Aside0.mk (Kd.R_lower ho (below_size HB.out)); have n1_ := Aside0.mk (below_step HB.out hb); clear HB ho hb; have HO := n0_; have HB := n1_; clear n0_ n1_))
    go_ret
    exact ⟨_, rfl, HO.out, HB.out⟩

/-! ### strconv_Itoa: function 94 -/
def strconv_Itoa.f (a0 : Int) : Option ByteArray := if -9223372036854775808 ≤ a0 ∧ a0 ≤ 9223372036854775807 then some ⟨(Lib.itoa a0).toArray⟩ else none
theorem strconv_Itoa.calls (a0 : Int) (r : ByteArray) (w : World) (hG : Glob w) (h : strconv_Itoa.f a0 = some r) :
    Calls Tryz.prog 94 #[.int .i64 a0] w fun e w' => e = .returned (.string r) ∧ Below w.heap.size w w' := by
  unfold strconv_Itoa.f at h
  by_cases hb : -9223372036854775808 ≤ a0 ∧ a0 ≤ 9223372036854775807
  · rw [if_pos hb] at h
    obtain rfl := Option.some.inj h
    refine (Tryz.strconv_Itoa a0 hb.1 hb.2 w hG.pow10).mono ?_
    rintro e w' ⟨rfl, k, os, rfl⟩
    exact ⟨rfl, Lib.below_grow _ _ (Nat.le_refl _) _ _⟩
  · rw [if_neg hb] at h
    cases h


end Go.Proofs.YtddaogebacigbaaGreatDoor.XA
