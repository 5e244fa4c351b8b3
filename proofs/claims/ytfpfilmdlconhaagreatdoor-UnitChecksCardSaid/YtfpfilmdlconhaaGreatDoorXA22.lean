-- Written by a program of this session's (wip/xp) out of the translation; given functions by hand.
import Derived.Test.YtfpfilmdlconhaaGreatDoorXA0
import Derived.Test.YtfpfilmdlconhaaGreatDoorXA3
import Derived.Test.YtfpfilmdlconhaaGreatDoorXA9
import Derived.Test.YtfpfilmdlconhaaGreatDoorXA18
import Derived.Test.YtfpfilmdlconhaaGreatDoorXA21
namespace Go.Proofs.YtfpfilmdlconhaaGreatDoor.XA
open Go.RowKit Go.Proofs.YtfpfilmdlconhaaGreatDoorW.PrintWords Go.Proofs.YtfpfilmdlconhaaGreatDoorW.PrintLast Go.Proofs.YtfpfilmdlconhaaGreatDoorW.PrintMore
attribute [local go_sem] max2_int min2_int max_two min_two max_three min_three max_four min_four   -- for this text's walks alone
set_option linter.unusedVariables false
set_option linter.unusedSimpArgs false

/-! ### transposallaw07_UnitChecks: function 9 -/
mutual
def transposallaw07_UnitChecks.l0 : Nat → Int → List Int → Int → List Int → Int → Int → Option (Bool)
 | 0, _, _, _, _, _, _ => none
 | k + 1, x1, x7, x8, x23, x24, x25 => if x25 < x24 then (if 0 ≤ x25 then (if x25 < (x23.length : Int) then (if (rd x23 x25) < 1 then (if (x7.length : Int) > 40 then ((unit_Units_Check.f k x7).bind fun t465 => (if t465 = 2 then ((unit_Code.f x1).bind fun t466 => (if x1 ≥ 1 then (some (t466 == (decide (x1 ≤ 999)))) else (some (t466 == false)))) else (some false))) else ((unit_Units_Check.f k x7).bind fun t467 => (if t467 = 5 then ((unit_Code.f x1).bind fun t468 => (if x1 ≥ 1 then (some (t468 == (decide (x1 ≤ 999)))) else (some (t468 == false)))) else (some false)))) else (if (rd x23 x25) > 999 then (if (x7.length : Int) > 40 then ((unit_Units_Check.f k x7).bind fun t469 => (if t469 = 2 then ((unit_Code.f x1).bind fun t470 => (if x1 ≥ 1 then (some (t470 == (decide (x1 ≤ 999)))) else (some (t470 == false)))) else (some false))) else ((unit_Units_Check.f k x7).bind fun t471 => (if t471 = 5 then ((unit_Code.f x1).bind fun t472 => (if x1 ≥ 1 then (some (t472 == (decide (x1 ≤ 999)))) else (some (t472 == false)))) else (some false)))) else (if x25 > 0 then (if 0 ≤ (wrap64 (x25 - 1)) then (if (wrap64 (x25 - 1)) < (x7.length : Int) then (if (rd x7 (wrap64 (x25 - 1))) ≥ (rd x23 x25) then (if (x7.length : Int) > 40 then ((unit_Units_Check.f k x7).bind fun t474 => (if t474 = 2 then ((unit_Code.f x1).bind fun t475 => (if x1 ≥ 1 then (some (t475 == (decide (x1 ≤ 999)))) else (some (t475 == false)))) else (some false))) else ((unit_Units_Check.f k x7).bind fun t476 => (if t476 = 6 then ((unit_Code.f x1).bind fun t477 => (if x1 ≥ 1 then (some (t477 == (decide (x1 ≤ 999)))) else (some (t477 == false)))) else (some false)))) else (transposallaw07_UnitChecks.l0 k x1 x7 x8 x23 x24 (wrap64 (x25 + 1)))) else (none)) else (none)) else (transposallaw07_UnitChecks.l0 k x1 x7 x8 x23 x24 (wrap64 (x25 + 1)))))) else (none)) else (none)) else (if (x7.length : Int) > 40 then ((unit_Units_Check.f k x7).bind fun t478 => (if t478 = 2 then ((unit_Code.f x1).bind fun t479 => (if x1 ≥ 1 then (some (t479 == (decide (x1 ≤ 999)))) else (some (t479 == false)))) else (some false))) else ((unit_Units_Check.f k x7).bind fun t480 => (if t480 = x8 then ((unit_Code.f x1).bind fun t481 => (if x1 ≥ 1 then (some (t481 == (decide (x1 ≤ 999)))) else (some (t481 == false)))) else (some false))))
def transposallaw07_UnitChecks.l1 : Nat → Int → List Int → Int → List Int → Int → Int → Option (Bool)
 | 0, _, _, _, _, _, _ => none
 | k + 1, x1, x7, x8, x23, x24, x25 => if x25 < x24 then (if 0 ≤ x25 then (if x25 < (x23.length : Int) then (if (rd x23 x25) < 1 then (if (x7.length : Int) > 40 then ((unit_Units_Check.f k x7).bind fun t483 => (if t483 = 2 then ((unit_Code.f x1).bind fun t484 => (if x1 ≥ 1 then (some (t484 == (decide (x1 ≤ 999)))) else (some (t484 == false)))) else (some false))) else ((unit_Units_Check.f k x7).bind fun t485 => (if t485 = 5 then ((unit_Code.f x1).bind fun t486 => (if x1 ≥ 1 then (some (t486 == (decide (x1 ≤ 999)))) else (some (t486 == false)))) else (some false)))) else (if (rd x23 x25) > 999 then (if (x7.length : Int) > 40 then ((unit_Units_Check.f k x7).bind fun t487 => (if t487 = 2 then ((unit_Code.f x1).bind fun t488 => (if x1 ≥ 1 then (some (t488 == (decide (x1 ≤ 999)))) else (some (t488 == false)))) else (some false))) else ((unit_Units_Check.f k x7).bind fun t489 => (if t489 = 5 then ((unit_Code.f x1).bind fun t490 => (if x1 ≥ 1 then (some (t490 == (decide (x1 ≤ 999)))) else (some (t490 == false)))) else (some false)))) else (if x25 > 0 then (if 0 ≤ (wrap64 (x25 - 1)) then (if (wrap64 (x25 - 1)) < (x7.length : Int) then (if (rd x7 (wrap64 (x25 - 1))) ≥ (rd x23 x25) then (if (x7.length : Int) > 40 then ((unit_Units_Check.f k x7).bind fun t492 => (if t492 = 2 then ((unit_Code.f x1).bind fun t493 => (if x1 ≥ 1 then (some (t493 == (decide (x1 ≤ 999)))) else (some (t493 == false)))) else (some false))) else ((unit_Units_Check.f k x7).bind fun t494 => (if t494 = 6 then ((unit_Code.f x1).bind fun t495 => (if x1 ≥ 1 then (some (t495 == (decide (x1 ≤ 999)))) else (some (t495 == false)))) else (some false)))) else (transposallaw07_UnitChecks.l1 k x1 x7 x8 x23 x24 (wrap64 (x25 + 1)))) else (none)) else (none)) else (transposallaw07_UnitChecks.l1 k x1 x7 x8 x23 x24 (wrap64 (x25 + 1)))))) else (none)) else (none)) else (if (x7.length : Int) > 40 then ((unit_Units_Check.f k x7).bind fun t496 => (if t496 = 2 then ((unit_Code.f x1).bind fun t497 => (if x1 ≥ 1 then (some (t497 == (decide (x1 ≤ 999)))) else (some (t497 == false)))) else (some false))) else ((unit_Units_Check.f k x7).bind fun t498 => (if t498 = x8 then ((unit_Code.f x1).bind fun t499 => (if x1 ≥ 1 then (some (t499 == (decide (x1 ≤ 999)))) else (some (t499 == false)))) else (some false))))
end
def transposallaw07_UnitChecks.f (k : Nat) (l0 : List Int) (a1 : Int) (a2 : Bool) : Option (Bool) := (transposallaw07_Awake.f k).bind fun t457 => (if t457 = true then (if (l0.length : Int) > 60 then (some true) else (if a2 = true then ((transposallaw07_Make.f k l0).bind fun t458 => (if t458.length < 70368744177664 then ((some (t458 ++ [a1] : List Int)).bind fun y461 => (transposallaw07_UnitChecks.l0 k a1 y461 0 y461 (y461.length : Int) 0)) else (none))) else (transposallaw07_UnitChecks.l1 k a1 l0 0 l0 (l0.length : Int) 0))) else (some false))
theorem transposallaw07_UnitChecks.mono_l : ∀ k, (∀ y0 y1 y2 y3 y4 y5, LeO (transposallaw07_UnitChecks.l0 k y0 y1 y2 y3 y4 y5) (transposallaw07_UnitChecks.l0 (k + 1) y0 y1 y2 y3 y4 y5)) ∧ (∀ y0 y1 y2 y3 y4 y5, LeO (transposallaw07_UnitChecks.l1 k y0 y1 y2 y3 y4 y5) (transposallaw07_UnitChecks.l1 (k + 1) y0 y1 y2 y3 y4 y5))
 | 0 => ⟨fun _ _ _ _ _ _ r h => by simp [transposallaw07_UnitChecks.l0] at h, fun _ _ _ _ _ _ r h => by simp [transposallaw07_UnitChecks.l1] at h⟩
 | k + 1 => by
  obtain ⟨ih0, ih1⟩ := transposallaw07_UnitChecks.mono_l k
  refine ⟨?_, ?_⟩
  ·intro y0 y1 y2 y3 y4 y5
   unfold transposallaw07_UnitChecks.l0
   repeat' first
   | (with_reducible exact ih0 _ _ _ _ _ _)
   | (with_reducible exact ih1 _ _ _ _ _ _)
   | (with_reducible exact transposallaw07_Awake.mono _)
   | (with_reducible exact transposallaw07_Make.mono _ _)
   | (with_reducible exact unit_Units_Check.mono _ _)
   | (with_reducible exact LeO.refl _)
   | (with_reducible exact LeO.none _)
   | (with_reducible refine LeO.ite ?_ ?_)
   | (with_reducible refine LeO.bind ?_ (fun _ => ?_))
   | exact ih0 _ _ _ _ _ _
   | exact ih1 _ _ _ _ _ _
   | exact transposallaw07_Awake.mono _
   | exact transposallaw07_Make.mono _ _
   | exact unit_Units_Check.mono _ _
   | exact LeO.none _
   | refine LeO.ite ?_ ?_
   | refine LeO.bind ?_ (fun _ => ?_)
  ·intro y0 y1 y2 y3 y4 y5
   unfold transposallaw07_UnitChecks.l1
   repeat' first
   | (with_reducible exact ih0 _ _ _ _ _ _)
   | (with_reducible exact ih1 _ _ _ _ _ _)
   | (with_reducible exact transposallaw07_Awake.mono _)
   | (with_reducible exact transposallaw07_Make.mono _ _)
   | (with_reducible exact unit_Units_Check.mono _ _)
   | (with_reducible exact LeO.refl _)
   | (with_reducible exact LeO.none _)
   | (with_reducible refine LeO.ite ?_ ?_)
   | (with_reducible refine LeO.bind ?_ (fun _ => ?_))
   | exact ih0 _ _ _ _ _ _
   | exact ih1 _ _ _ _ _ _
   | exact transposallaw07_Awake.mono _
   | exact transposallaw07_Make.mono _ _
   | exact unit_Units_Check.mono _ _
   | exact LeO.none _
   | refine LeO.ite ?_ ?_
   | refine LeO.bind ?_ (fun _ => ?_)
theorem transposallaw07_UnitChecks.mono : ∀ a0 a1 a2 k, LeO (transposallaw07_UnitChecks.f k a0 a1 a2) (transposallaw07_UnitChecks.f (k + 1) a0 a1 a2) := by
 intro a0 a1 a2 k
 obtain ⟨ih0, ih1⟩ := transposallaw07_UnitChecks.mono_l k
 unfold transposallaw07_UnitChecks.f
 repeat' first
   | (with_reducible exact ih0 _ _ _ _ _ _)
   | (with_reducible exact ih1 _ _ _ _ _ _)
   | (with_reducible exact transposallaw07_Awake.mono _)
   | (with_reducible exact transposallaw07_Make.mono _ _)
   | (with_reducible exact unit_Units_Check.mono _ _)
   | (with_reducible exact LeO.refl _)
   | (with_reducible exact LeO.none _)
   | (with_reducible refine LeO.ite ?_ ?_)
   | (with_reducible refine LeO.bind ?_ (fun _ => ?_))
   | exact ih0 _ _ _ _ _ _
   | exact ih1 _ _ _ _ _ _
   | exact transposallaw07_Awake.mono _
   | exact transposallaw07_Make.mono _ _
   | exact unit_Units_Check.mono _ _
   | exact LeO.none _
   | refine LeO.ite ?_ ?_
   | refine LeO.bind ?_ (fun _ => ?_)
set_option maxHeartbeats 8000000 in
set_option maxRecDepth 100000 in
theorem transposallaw07_UnitChecks.calls (k : Nat) (A0 : Option Addr) (c0 : Nat) (l0 : List Int) (a1 : Int) (a2 : Bool) (r : Bool) (w : World) (hr0 : Kd.C (Kd.int .u16) w A0 l0.length l0) (hc0 : l0.length ≤ c0) (hG : Glob w) (h : transposallaw07_UnitChecks.f k l0 a1 a2 = some r) :
  Calls Tryz.prog 9 #[.slice A0 l0.length c0, .int .u16 a1, .bool a2] w fun e w' => e = .returned (.bool r) ∧ Below w.heap.size w w' := by
 have HG := Aside0.mk hG
 clear hG
 have HR0 := Aside0.mk hr0
 have HC0 := Aside0.mk hc0
 clear hr0 hc0
 have HB := Aside0.mk (Below.refl w.heap.size w)
 have H : ((transposallaw07_Awake.f k).bind fun t457 => (if t457 = true then (if (l0.length : Int) > 60 then (some true) else (if a2 = true then ((transposallaw07_Make.f k l0).bind fun t458 => (if t458.length < 70368744177664 then ((some (t458 ++ [a1] : List Int)).bind fun y461 => (transposallaw07_UnitChecks.l0 k a1 y461 0 y461 (y461.length : Int) 0)) else (none))) else (transposallaw07_UnitChecks.l1 k a1 l0 0 l0 (l0.length : Int) 0))) else (some false))) = some r := h
 clear h
 replace H := Option.bind_eq_some_iff.mp H
 obtain ⟨t457, A40, H⟩ := H
 replace H : (if t457 = true then (if (l0.length : Int) > 60 then (some true) else (if a2 = true then ((transposallaw07_Make.f k l0).bind fun t458 => (if t458.length < 70368744177664 then ((some (t458 ++ [a1] : List Int)).bind fun y461 => (transposallaw07_UnitChecks.l0 k a1 y461 0 y461 (y461.length : Int) 0)) else (none))) else (transposallaw07_UnitChecks.l1 k a1 l0 0 l0 (l0.length : Int) 0))) else (some false)) = some r := H
 have A4 := Aside0.mk A40
 clear A40
 by_cases c5 : t457 = true
 ·subst c5
  have H1 : (if (l0.length : Int) > 60 then (some true) else (if a2 = true then ((transposallaw07_Make.f k l0).bind fun t458 => (if t458.length < 70368744177664 then ((some (t458 ++ [a1] : List Int)).bind fun y461 => (transposallaw07_UnitChecks.l0 k a1 y461 0 y461 (y461.length : Int) 0)) else (none))) else (transposallaw07_UnitChecks.l1 k a1 l0 0 l0 (l0.length : Int) 0))) = some r := by rw [if_pos rfl] at H; exact H
  clear H
  have H := H1
  clear H1
  by_cases c6 : (l0.length : Int) > 60
  ·rw [if_pos c6] at H
   have c6b0 : decide (60 < (l0.length : Int)) = true := decide_eq_true c6
   have c6b1 : decide (60 < l0.length) = true := decide_eq_true (by omega)
   clear c6
   obtain rfl := Option.some.inj H
   go_enter Tryz.func9, Tryz.ntmps9
   go_wp2_with (first | ((with_reducible refine gate_callee (f := 21) rfl ?_); refine goesL_ (some 11) rfl rfl Tryz.func21 (by kernel_rfl) rfl #[] rfl (by (try simp only [List.map_toArray, List.map_cons, List.map_nil]); first | done | rfl | (simp only [List.length_drop, List.length_take]; rfl)) ?_; (with_reducible refine (transposallaw07_Awake.calls k  true _ ?side1 A4.out).mono ?_); (case side1 => exact Glob.below (by repeat (first | (with_reducible first | exact HB.out | apply below_alloc | apply pw_below_drewN | apply below_drew1) | exact HB.out)) HG.out); rintro e w7 ⟨rfl, hb⟩; refine ⟨_, rfl, ?_⟩; have n0_ := Aside0.mk (below_step (by repeat (first | (with_reducible first | exact HB.out | apply below_alloc | apply pw_below_drewN | apply below_drew1) | exact HB.out)) hb); clear HB; have HB := n0_; clear n0_; (try clear hb); (try clear hb2); (try clear hk); (try clear hi)))
   go_ret
   exact ⟨by first | rfl | (simp [errW_none, errW_some] <;> rfl) | (simp [*, errW_none, errW_some] <;> rfl), by repeat (first | (with_reducible first | exact HB.out | apply below_alloc | apply pw_below_drewN | apply below_drew1) | exact HB.out)⟩
  ·rw [if_neg c6] at H
   have c6b0 : decide (60 < (l0.length : Int)) = false := decide_eq_false c6
   have c6b1 : decide (60 < l0.length) = false := decide_eq_false (by omega)
   clear c6
   by_cases c8 : a2 = true
   ·subst c8
    have H1 : ((transposallaw07_Make.f k l0).bind fun t458 => (if t458.length < 70368744177664 then ((some (t458 ++ [a1] : List Int)).bind fun y461 => (transposallaw07_UnitChecks.l0 k a1 y461 0 y461 (y461.length : Int) 0)) else (none))) = some r := by rw [if_pos rfl] at H; exact H
    clear H
    have H := H1
    clear H1
    replace H := Option.bind_eq_some_iff.mp H
    obtain ⟨t458, A90, H⟩ := H
    replace H : (if t458.length < 70368744177664 then ((some (t458 ++ [a1] : List Int)).bind fun y461 => (transposallaw07_UnitChecks.l0 k a1 y461 0 y461 (y461.length : Int) 0)) else (none)) = some r := H
    have A9 := Aside0.mk A90
    clear A90
    by_cases c10 : t458.length < 70368744177664
    ·rw [if_pos c10] at H
     have LMc10 := Aside0.mk c10
     clear c10
     obtain ⟨y461, hy461⟩ : ∃ y_ : List Int, y_ = (t458 ++ [a1]) := ⟨_, rfl⟩
     replace H : (transposallaw07_UnitChecks.l0 k a1 y461 0 y461 (y461.length : Int) 0) = some r := by first | (rw [hy461]; with_reducible exact H) | (have H2_ := (Option.bind_some _ _).symm.trans H; rw [hy461]; with_reducible exact H2_) | (have H2_ := (Option.bind_some _ _).symm.trans H; with_reducible exact H2_) | with_reducible exact H | (rw [hy461]; exact H) | exact H
     have Ny461 := Aside0.mk hy461
     clear hy461
     have H' := Aside0.mk H
     clear H
     go_enter Tryz.func9, Tryz.ntmps9
     go_wp2_with (first | ((with_reducible refine gate_callee (f := 21) rfl ?_); refine goesL_ (some 11) rfl rfl Tryz.func21 (by kernel_rfl) rfl #[] rfl (by (try simp only [List.map_toArray, List.map_cons, List.map_nil]); first | done | rfl | (simp only [List.length_drop, List.length_take]; rfl)) ?_; (with_reducible refine (transposallaw07_Awake.calls k  true _ ?side1 A4.out).mono ?_); (case side1 => exact Glob.below (by repeat (first | (with_reducible first | exact HB.out | apply below_alloc | apply pw_below_drewN | apply below_drew1) | exact HB.out)) HG.out); rintro e w11 ⟨rfl, hb⟩; refine ⟨_, rfl, ?_⟩; have n0_ := Aside0.mk (below_step (by repeat (first | (with_reducible first | exact HB.out | apply below_alloc | apply pw_below_drewN | apply below_drew1) | exact HB.out)) hb); clear HB; have HB := n0_; clear n0_; (try clear hb); (try clear hb2); (try clear hk); (try clear hi)) | ((with_reducible refine gate_callee (f := 25) rfl ?_); refine goesL_ (some 19) rfl rfl Tryz.func25 (by kernel_rfl) rfl #[.slice A0 l0.length c0] rfl (by (try simp only [List.map_toArray, List.map_cons, List.map_nil]); first | done | rfl | (simp only [List.length_drop, List.length_take]; rfl)) ?_; (with_reducible refine (transposallaw07_Make.calls k _ _ l0 t458 _ ?side1 ?side2 A9.out).mono ?_); (case side1 => repeat (first | exact (Kd.C_below HR0.out HB.out) | (with_reducible refine Kd.C_alloc ?_ _) | (with_reducible refine Kd.C_drewN ?_ _) | (with_reducible refine Kd.C_drew ?_))); (case side2 => exact HC0.out); rintro e w12 ⟨v459, rfl, ho0, hb⟩; refine ⟨_, rfl, ?_⟩; have n0_ := Aside0.mk (Kd.R_lower ho0 (below_size (by repeat (first | (with_reducible first | exact HB.out | apply below_alloc | apply pw_below_drewN | apply below_drew1) | exact HB.out)))); have n1_ := Aside0.mk (below_step (by repeat (first | (with_reducible first | exact HB.out | apply below_alloc | apply pw_below_drewN | apply below_drew1) | exact HB.out)) hb); clear HB; have HO460 := n0_; have HB := n1_; clear n0_ n1_; (try clear hb); (try clear hb2); (try clear hk); (try clear hi); (try clear ho0)) | ((with_reducible refine gate_builtin (b := .append) (xs := #[.tmp 19, .tmp 21]) rfl ?_); at_builtin; refine Kd.R_append (Kd.int .u16) (w0 := w) w.heap.size rfl (.tmp 19) (.tmp 21) 46 48 (.int .u16 0) 2 rfl Tryz.underlying46 info48 rfl (by decide) (by omega) v459 t458 a1 [.int .u16 a1] (fun _ => True) (fun _ => False) rfl rfl ?aP (fun _ hk => hk.elim) ?aF ?aO ?aB ?aS ?aL ?_; (case aP => exact rfl); (case aB => exact (by repeat (first | (with_reducible first | exact HB.out | apply below_alloc | apply pw_below_drewN | apply below_drew1) | exact HB.out))); (case aF => exact (fun _ _ => trivial)); (case aO => exact (by (with_reducible repeat (first | apply Kd.R_alloc | apply Kd.R_drewN | apply Kd.R_drew)); exact HO460.out)); (case aS => exact (below_size (by repeat (first | (with_reducible first | exact HB.out | apply below_alloc | apply pw_below_drewN | apply below_drew1) | exact HB.out)))); (case aL => have := LMc10.out; omega); intro v462 w13 ho hb hg hat; rw [← Ny461.out] at ho; have n0_ := Aside0.mk (hb); have n1_ := Aside0.mk (ho); clear HB; clear HO460; have HB := n0_; have HO463 := n1_; clear n0_ n1_; clear ho hb hg hat; obtain ⟨Ao14, co14, eo14⟩ := Kd.R_slice HO463.out; subst eo14))
     go_loopg [8, 25] k (fun kq v8 v25 w' => ∃ (x8_1 : Int) (x25_1 : Int), v8 = .int .i64 x8_1 ∧ v25 = .int .i64 x25_1 ∧ Aside0 (transposallaw07_UnitChecks.l0 kq a1 y461 x8_1 y461 (y461.length : Int) x25_1 = some r) ∧ Aside0 (kq ≤ k) ∧ Aside0 (Kd.R (Kd.int .u16) 48 w' w.heap.size (fun _ => True) (.slice Ao14 y461.length co14) y461) ∧ Aside0 (Kd.R (Kd.int .u16) 48 w' w.heap.size (fun _ => True) (.slice Ao14 y461.length co14) y461) ∧ Aside0 (Below w.heap.size w w'))
     case atStart => exact ⟨(0), (0), (by first | rfl | (simp; done) | (simp [*]; done)), (by first | rfl | (simp; done) | (simp [*]; done)), H', ⟨Nat.le_refl _⟩, ⟨by (with_reducible repeat (first | apply Kd.R_alloc | apply Kd.R_drewN | apply Kd.R_drew)); exact HO463.out⟩, ⟨by (with_reducible repeat (first | apply Kd.R_alloc | apply Kd.R_drewN | apply Kd.R_drew)); exact HO463.out⟩, ⟨by repeat (first | (with_reducible first | exact HB.out | apply below_alloc | apply pw_below_drewN | apply below_drew1) | exact HB.out)⟩⟩
     case round =>
      clear H'
      try clear c1
      try clear c2
      try clear p2
      try clear c5
      try clear c6
      try clear c6b0
      try clear c6b1
      try clear c8
      try clear c9
      try clear c10
      obtain ⟨x8_1, x25_1, rfl, rfl, HA, HK1, HO_7, HO_23, HB⟩ := hrel
      cases gk with
      | zero => exact absurd HA.out (by simp [transposallaw07_UnitChecks.l0])
      | succ k1 =>
       have H := HA.out
       clear HA
       simp only [transposallaw07_UnitChecks.l0] at H
       by_cases c15 : x25_1 < (y461.length : Int)
       ·rw [if_pos c15] at H
        have c15b0 : decide (x25_1 < (y461.length : Int)) = true := decide_eq_true c15
        clear c15
        by_cases c16 : 0 ≤ x25_1
        ·rw [if_pos c16] at H
         have c16b0 : decide (0 ≤ x25_1) = true := decide_eq_true c16
         clear c16
         by_cases c17 : x25_1 < (y461.length : Int)
         ·rw [if_pos c17] at H
          have c17b0 : decide (x25_1 < (y461.length : Int)) = true := decide_eq_true c17
          clear c17
          by_cases c18 : (rd y461 x25_1) < 1
          ·rw [if_pos c18] at H
           have c18b0 : decide ((rd y461 x25_1) < 1) = true := decide_eq_true c18
           clear c18
           by_cases c19 : (y461.length : Int) > 40
           ·rw [if_pos c19] at H
            have c19b0 : decide (40 < (y461.length : Int)) = true := decide_eq_true c19
            have c19b1 : decide (40 < y461.length) = true := decide_eq_true (by omega)
            clear c19
            replace H := Option.bind_eq_some_iff.mp H
            obtain ⟨t465, A200, H⟩ := H
            replace H : (if t465 = 2 then ((unit_Code.f a1).bind fun t466 => (if a1 ≥ 1 then (some (t466 == (decide (a1 ≤ 999)))) else (some (t466 == false)))) else (some false)) = some r := H
            have A20 := Aside0.mk A200
            clear A200
            by_cases c21 : t465 = 2
            ·rw [if_pos c21] at H
             have c21b0 : (t465 == 2) = true := beq_iff_eq.mpr c21
             have c21b1 : (t465 != 2) = false := bne_eq_false_iff_eq.mpr c21
             clear c21
             replace H := Option.bind_eq_some_iff.mp H
             obtain ⟨t466, A220, H⟩ := H
             replace H : (if a1 ≥ 1 then (some (t466 == (decide (a1 ≤ 999)))) else (some (t466 == false))) = some r := H
             have A22 := Aside0.mk A220
             clear A220
             by_cases c23 : a1 ≥ 1
             ·rw [if_pos c23] at H
              have c23b0 : decide (1 ≤ a1) = true := decide_eq_true c23
              clear c23
              obtain rfl := Option.some.inj H
              have p464 : 0 ≤ (x25_1 : Int) := of_decide_eq_true (by first | (with_reducible assumption) | assumption)
              have q464 : x25_1 < (y461.length : Int) := of_decide_eq_true (by first | (with_reducible assumption) | assumption)
              obtain ⟨ad464, e464, hx464_0⟩ := Kd.at_int (Kd.R_reads' HO_23.out).2.2 x25_1 p464 q464
              cases e464
              replace p464 := eq_true p464
              replace q464 := eq_true q464
              go_wp2_with (first | ((with_reducible refine gate_callee (f := 23) rfl ?_); refine goesL_ (some 52) rfl rfl Tryz.func23 (by kernel_rfl) rfl #[.slice (some ad464) y461.length co14] rfl (by (try simp only [List.map_toArray, List.map_cons, List.map_nil]); first | done | rfl | (simp only [List.length_drop, List.length_take]; rfl)) ?_; (with_reducible refine (unit_Units_Check.calls k1 _ _ y461 t465 _ ?side1 ?side2 A20.out).mono ?_); (case side1 => repeat (first | exact (Kd.R_reads' HO_7.out).2.2 | (with_reducible refine Kd.C_alloc ?_ _) | (with_reducible refine Kd.C_drewN ?_ _) | (with_reducible refine Kd.C_drew ?_))); (case side2 => exact (Kd.R_reads' HO_7.out).2.1); rintro e w' ⟨rfl, ⟨nd, rfl⟩⟩; refine ⟨_, rfl, ?_⟩) | (go_at_call 26; (with_reducible refine (unit_Code.calls a1 t466 _ A22.out).mono ?_); rintro e w' ⟨rfl, ⟨nd, rfl⟩⟩))
              go_ret
              exact ⟨by first | rfl | (simp [errW_none, errW_some] <;> rfl) | (simp [*, errW_none, errW_some] <;> rfl), by repeat (first | (with_reducible first | exact HB.out | apply below_alloc | apply pw_below_drewN | apply below_drew1) | exact HB.out)⟩
             ·rw [if_neg c23] at H
              have c23b0 : decide (1 ≤ a1) = false := decide_eq_false c23
              clear c23
              obtain rfl := Option.some.inj H
              have p464 : 0 ≤ (x25_1 : Int) := of_decide_eq_true (by first | (with_reducible assumption) | assumption)
              have q464 : x25_1 < (y461.length : Int) := of_decide_eq_true (by first | (with_reducible assumption) | assumption)
              obtain ⟨ad464, e464, hx464_0⟩ := Kd.at_int (Kd.R_reads' HO_23.out).2.2 x25_1 p464 q464
              cases e464
              replace p464 := eq_true p464
              replace q464 := eq_true q464
              go_wp2_with (first | ((with_reducible refine gate_callee (f := 23) rfl ?_); refine goesL_ (some 52) rfl rfl Tryz.func23 (by kernel_rfl) rfl #[.slice (some ad464) y461.length co14] rfl (by (try simp only [List.map_toArray, List.map_cons, List.map_nil]); first | done | rfl | (simp only [List.length_drop, List.length_take]; rfl)) ?_; (with_reducible refine (unit_Units_Check.calls k1 _ _ y461 t465 _ ?side1 ?side2 A20.out).mono ?_); (case side1 => repeat (first | exact (Kd.R_reads' HO_7.out).2.2 | (with_reducible refine Kd.C_alloc ?_ _) | (with_reducible refine Kd.C_drewN ?_ _) | (with_reducible refine Kd.C_drew ?_))); (case side2 => exact (Kd.R_reads' HO_7.out).2.1); rintro e w' ⟨rfl, ⟨nd, rfl⟩⟩; refine ⟨_, rfl, ?_⟩) | (go_at_call 26; (with_reducible refine (unit_Code.calls a1 t466 _ A22.out).mono ?_); rintro e w' ⟨rfl, ⟨nd, rfl⟩⟩))
              go_ret
              exact ⟨by first | rfl | (simp [errW_none, errW_some] <;> rfl) | (simp [*, errW_none, errW_some] <;> rfl), by repeat (first | (with_reducible first | exact HB.out | apply below_alloc | apply pw_below_drewN | apply below_drew1) | exact HB.out)⟩
            ·rw [if_neg c21] at H
             have c21b0 : (t465 == 2) = false := beq_eq_false_iff_ne.mpr c21
             have c21b1 : (t465 != 2) = true := bne_iff_ne.mpr c21
             obtain rfl := Option.some.inj H
             have p464 : 0 ≤ (x25_1 : Int) := of_decide_eq_true (by first | (with_reducible assumption) | assumption)
             have q464 : x25_1 < (y461.length : Int) := of_decide_eq_true (by first | (with_reducible assumption) | assumption)
             obtain ⟨ad464, e464, hx464_0⟩ := Kd.at_int (Kd.R_reads' HO_23.out).2.2 x25_1 p464 q464
             cases e464
             replace p464 := eq_true p464
             replace q464 := eq_true q464
             go_wp2_with (first | ((with_reducible refine gate_callee (f := 23) rfl ?_); refine goesL_ (some 52) rfl rfl Tryz.func23 (by kernel_rfl) rfl #[.slice (some ad464) y461.length co14] rfl (by (try simp only [List.map_toArray, List.map_cons, List.map_nil]); first | done | rfl | (simp only [List.length_drop, List.length_take]; rfl)) ?_; (with_reducible refine (unit_Units_Check.calls k1 _ _ y461 t465 _ ?side1 ?side2 A20.out).mono ?_); (case side1 => repeat (first | exact (Kd.R_reads' HO_7.out).2.2 | (with_reducible refine Kd.C_alloc ?_ _) | (with_reducible refine Kd.C_drewN ?_ _) | (with_reducible refine Kd.C_drew ?_))); (case side2 => exact (Kd.R_reads' HO_7.out).2.1); rintro e w' ⟨rfl, ⟨nd, rfl⟩⟩; refine ⟨_, rfl, ?_⟩))
             go_ret
             exact ⟨by first | rfl | (simp [errW_none, errW_some] <;> rfl) | (simp [*, errW_none, errW_some] <;> rfl), by repeat (first | (with_reducible first | exact HB.out | apply below_alloc | apply pw_below_drewN | apply below_drew1) | exact HB.out)⟩
           ·rw [if_neg c19] at H
            have c19b0 : decide (40 < (y461.length : Int)) = false := decide_eq_false c19
            have c19b1 : decide (40 < y461.length) = false := decide_eq_false (by omega)
            clear c19
            replace H := Option.bind_eq_some_iff.mp H
            obtain ⟨t467, A240, H⟩ := H
            replace H : (if t467 = 5 then ((unit_Code.f a1).bind fun t468 => (if a1 ≥ 1 then (some (t468 == (decide (a1 ≤ 999)))) else (some (t468 == false)))) else (some false)) = some r := H
            have A24 := Aside0.mk A240
            clear A240
            by_cases c25 : t467 = 5
            ·rw [if_pos c25] at H
             have c25b0 : (t467 == 5) = true := beq_iff_eq.mpr c25
             have c25b1 : (t467 != 5) = false := bne_eq_false_iff_eq.mpr c25
             clear c25
             replace H := Option.bind_eq_some_iff.mp H
             obtain ⟨t468, A260, H⟩ := H
             replace H : (if a1 ≥ 1 then (some (t468 == (decide (a1 ≤ 999)))) else (some (t468 == false))) = some r := H
             have A26 := Aside0.mk A260
             clear A260
             by_cases c27 : a1 ≥ 1
             ·rw [if_pos c27] at H
              have c27b0 : decide (1 ≤ a1) = true := decide_eq_true c27
              clear c27
              obtain rfl := Option.some.inj H
              have p464 : 0 ≤ (x25_1 : Int) := of_decide_eq_true (by first | (with_reducible assumption) | assumption)
              have q464 : x25_1 < (y461.length : Int) := of_decide_eq_true (by first | (with_reducible assumption) | assumption)
              obtain ⟨ad464, e464, hx464_0⟩ := Kd.at_int (Kd.R_reads' HO_23.out).2.2 x25_1 p464 q464
              cases e464
              replace p464 := eq_true p464
              replace q464 := eq_true q464
              go_wp2_with (first | ((with_reducible refine gate_callee (f := 23) rfl ?_); refine goesL_ (some 52) rfl rfl Tryz.func23 (by kernel_rfl) rfl #[.slice (some ad464) y461.length co14] rfl (by (try simp only [List.map_toArray, List.map_cons, List.map_nil]); first | done | rfl | (simp only [List.length_drop, List.length_take]; rfl)) ?_; (with_reducible refine (unit_Units_Check.calls k1 _ _ y461 t467 _ ?side1 ?side2 A24.out).mono ?_); (case side1 => repeat (first | exact (Kd.R_reads' HO_7.out).2.2 | (with_reducible refine Kd.C_alloc ?_ _) | (with_reducible refine Kd.C_drewN ?_ _) | (with_reducible refine Kd.C_drew ?_))); (case side2 => exact (Kd.R_reads' HO_7.out).2.1); rintro e w' ⟨rfl, ⟨nd, rfl⟩⟩; refine ⟨_, rfl, ?_⟩) | (go_at_call 26; (with_reducible refine (unit_Code.calls a1 t468 _ A26.out).mono ?_); rintro e w' ⟨rfl, ⟨nd, rfl⟩⟩))
              go_ret
              exact ⟨by first | rfl | (simp [errW_none, errW_some] <;> rfl) | (simp [*, errW_none, errW_some] <;> rfl), by repeat (first | (with_reducible first | exact HB.out | apply below_alloc | apply pw_below_drewN | apply below_drew1) | exact HB.out)⟩
             ·rw [if_neg c27] at H
              have c27b0 : decide (1 ≤ a1) = false := decide_eq_false c27
              clear c27
              obtain rfl := Option.some.inj H
              have p464 : 0 ≤ (x25_1 : Int) := of_decide_eq_true (by first | (with_reducible assumption) | assumption)
              have q464 : x25_1 < (y461.length : Int) := of_decide_eq_true (by first | (with_reducible assumption) | assumption)
              obtain ⟨ad464, e464, hx464_0⟩ := Kd.at_int (Kd.R_reads' HO_23.out).2.2 x25_1 p464 q464
              cases e464
              replace p464 := eq_true p464
              replace q464 := eq_true q464
              go_wp2_with (first | ((with_reducible refine gate_callee (f := 23) rfl ?_); refine goesL_ (some 52) rfl rfl Tryz.func23 (by kernel_rfl) rfl #[.slice (some ad464) y461.length co14] rfl (by (try simp only [List.map_toArray, List.map_cons, List.map_nil]); first | done | rfl | (simp only [List.length_drop, List.length_take]; rfl)) ?_; (with_reducible refine (unit_Units_Check.calls k1 _ _ y461 t467 _ ?side1 ?side2 A24.out).mono ?_); (case side1 => repeat (first | exact (Kd.R_reads' HO_7.out).2.2 | (with_reducible refine Kd.C_alloc ?_ _) | (with_reducible refine Kd.C_drewN ?_ _) | (with_reducible refine Kd.C_drew ?_))); (case side2 => exact (Kd.R_reads' HO_7.out).2.1); rintro e w' ⟨rfl, ⟨nd, rfl⟩⟩; refine ⟨_, rfl, ?_⟩) | (go_at_call 26; (with_reducible refine (unit_Code.calls a1 t468 _ A26.out).mono ?_); rintro e w' ⟨rfl, ⟨nd, rfl⟩⟩))
              go_ret
              exact ⟨by first | rfl | (simp [errW_none, errW_some] <;> rfl) | (simp [*, errW_none, errW_some] <;> rfl), by repeat (first | (with_reducible first | exact HB.out | apply below_alloc | apply pw_below_drewN | apply below_drew1) | exact HB.out)⟩
            ·rw [if_neg c25] at H
             have c25b0 : (t467 == 5) = false := beq_eq_false_iff_ne.mpr c25
             have c25b1 : (t467 != 5) = true := bne_iff_ne.mpr c25
             obtain rfl := Option.some.inj H
             have p464 : 0 ≤ (x25_1 : Int) := of_decide_eq_true (by first | (with_reducible assumption) | assumption)
             have q464 : x25_1 < (y461.length : Int) := of_decide_eq_true (by first | (with_reducible assumption) | assumption)
             obtain ⟨ad464, e464, hx464_0⟩ := Kd.at_int (Kd.R_reads' HO_23.out).2.2 x25_1 p464 q464
             cases e464
             replace p464 := eq_true p464
             replace q464 := eq_true q464
             go_wp2_with (first | ((with_reducible refine gate_callee (f := 23) rfl ?_); refine goesL_ (some 52) rfl rfl Tryz.func23 (by kernel_rfl) rfl #[.slice (some ad464) y461.length co14] rfl (by (try simp only [List.map_toArray, List.map_cons, List.map_nil]); first | done | rfl | (simp only [List.length_drop, List.length_take]; rfl)) ?_; (with_reducible refine (unit_Units_Check.calls k1 _ _ y461 t467 _ ?side1 ?side2 A24.out).mono ?_); (case side1 => repeat (first | exact (Kd.R_reads' HO_7.out).2.2 | (with_reducible refine Kd.C_alloc ?_ _) | (with_reducible refine Kd.C_drewN ?_ _) | (with_reducible refine Kd.C_drew ?_))); (case side2 => exact (Kd.R_reads' HO_7.out).2.1); rintro e w' ⟨rfl, ⟨nd, rfl⟩⟩; refine ⟨_, rfl, ?_⟩))
             go_ret
             exact ⟨by first | rfl | (simp [errW_none, errW_some] <;> rfl) | (simp [*, errW_none, errW_some] <;> rfl), by repeat (first | (with_reducible first | exact HB.out | apply below_alloc | apply pw_below_drewN | apply below_drew1) | exact HB.out)⟩
          ·rw [if_neg c18] at H
           have c18b0 : decide ((rd y461 x25_1) < 1) = false := decide_eq_false c18
           clear c18
           by_cases c28 : (rd y461 x25_1) > 999
           ·rw [if_pos c28] at H
            have c28b0 : decide (999 < (rd y461 x25_1)) = true := decide_eq_true c28
            clear c28
            by_cases c29 : (y461.length : Int) > 40
            ·rw [if_pos c29] at H
             have c29b0 : decide (40 < (y461.length : Int)) = true := decide_eq_true c29
             have c29b1 : decide (40 < y461.length) = true := decide_eq_true (by omega)
             clear c29
             replace H := Option.bind_eq_some_iff.mp H
             obtain ⟨t469, A300, H⟩ := H
             replace H : (if t469 = 2 then ((unit_Code.f a1).bind fun t470 => (if a1 ≥ 1 then (some (t470 == (decide (a1 ≤ 999)))) else (some (t470 == false)))) else (some false)) = some r := H
             have A30 := Aside0.mk A300
             clear A300
             by_cases c31 : t469 = 2
             ·rw [if_pos c31] at H
              have c31b0 : (t469 == 2) = true := beq_iff_eq.mpr c31
              have c31b1 : (t469 != 2) = false := bne_eq_false_iff_eq.mpr c31
              clear c31
              replace H := Option.bind_eq_some_iff.mp H
              obtain ⟨t470, A320, H⟩ := H
              replace H : (if a1 ≥ 1 then (some (t470 == (decide (a1 ≤ 999)))) else (some (t470 == false))) = some r := H
              have A32 := Aside0.mk A320
              clear A320
              by_cases c33 : a1 ≥ 1
              ·rw [if_pos c33] at H
               have c33b0 : decide (1 ≤ a1) = true := decide_eq_true c33
               clear c33
               obtain rfl := Option.some.inj H
               have p464 : 0 ≤ (x25_1 : Int) := of_decide_eq_true (by first | (with_reducible assumption) | assumption)
               have q464 : x25_1 < (y461.length : Int) := of_decide_eq_true (by first | (with_reducible assumption) | assumption)
               obtain ⟨ad464, e464, hx464_0⟩ := Kd.at_int (Kd.R_reads' HO_23.out).2.2 x25_1 p464 q464
               cases e464
               replace p464 := eq_true p464
               replace q464 := eq_true q464
               go_wp2_with (first | ((with_reducible refine gate_callee (f := 23) rfl ?_); refine goesL_ (some 52) rfl rfl Tryz.func23 (by kernel_rfl) rfl #[.slice (some ad464) y461.length co14] rfl (by (try simp only [List.map_toArray, List.map_cons, List.map_nil]); first | done | rfl | (simp only [List.length_drop, List.length_take]; rfl)) ?_; (with_reducible refine (unit_Units_Check.calls k1 _ _ y461 t469 _ ?side1 ?side2 A30.out).mono ?_); (case side1 => repeat (first | exact (Kd.R_reads' HO_7.out).2.2 | (with_reducible refine Kd.C_alloc ?_ _) | (with_reducible refine Kd.C_drewN ?_ _) | (with_reducible refine Kd.C_drew ?_))); (case side2 => exact (Kd.R_reads' HO_7.out).2.1); rintro e w' ⟨rfl, ⟨nd, rfl⟩⟩; refine ⟨_, rfl, ?_⟩) | (go_at_call 26; (with_reducible refine (unit_Code.calls a1 t470 _ A32.out).mono ?_); rintro e w' ⟨rfl, ⟨nd, rfl⟩⟩))
               go_ret
               exact ⟨by first | rfl | (simp [errW_none, errW_some] <;> rfl) | (simp [*, errW_none, errW_some] <;> rfl), by repeat (first | (with_reducible first | exact HB.out | apply below_alloc | apply pw_below_drewN | apply below_drew1) | exact HB.out)⟩
              ·rw [if_neg c33] at H
               have c33b0 : decide (1 ≤ a1) = false := decide_eq_false c33
               clear c33
               obtain rfl := Option.some.inj H
               have p464 : 0 ≤ (x25_1 : Int) := of_decide_eq_true (by first | (with_reducible assumption) | assumption)
               have q464 : x25_1 < (y461.length : Int) := of_decide_eq_true (by first | (with_reducible assumption) | assumption)
               obtain ⟨ad464, e464, hx464_0⟩ := Kd.at_int (Kd.R_reads' HO_23.out).2.2 x25_1 p464 q464
               cases e464
               replace p464 := eq_true p464
               replace q464 := eq_true q464
               go_wp2_with (first | ((with_reducible refine gate_callee (f := 23) rfl ?_); refine goesL_ (some 52) rfl rfl Tryz.func23 (by kernel_rfl) rfl #[.slice (some ad464) y461.length co14] rfl (by (try simp only [List.map_toArray, List.map_cons, List.map_nil]); first | done | rfl | (simp only [List.length_drop, List.length_take]; rfl)) ?_; (with_reducible refine (unit_Units_Check.calls k1 _ _ y461 t469 _ ?side1 ?side2 A30.out).mono ?_); (case side1 => repeat (first | exact (Kd.R_reads' HO_7.out).2.2 | (with_reducible refine Kd.C_alloc ?_ _) | (with_reducible refine Kd.C_drewN ?_ _) | (with_reducible refine Kd.C_drew ?_))); (case side2 => exact (Kd.R_reads' HO_7.out).2.1); rintro e w' ⟨rfl, ⟨nd, rfl⟩⟩; refine ⟨_, rfl, ?_⟩) | (go_at_call 26; (with_reducible refine (unit_Code.calls a1 t470 _ A32.out).mono ?_); rintro e w' ⟨rfl, ⟨nd, rfl⟩⟩))
               go_ret
               exact ⟨by first | rfl | (simp [errW_none, errW_some] <;> rfl) | (simp [*, errW_none, errW_some] <;> rfl), by repeat (first | (with_reducible first | exact HB.out | apply below_alloc | apply pw_below_drewN | apply below_drew1) | exact HB.out)⟩
             ·rw [if_neg c31] at H
              have c31b0 : (t469 == 2) = false := beq_eq_false_iff_ne.mpr c31
              have c31b1 : (t469 != 2) = true := bne_iff_ne.mpr c31
              obtain rfl := Option.some.inj H
              have p464 : 0 ≤ (x25_1 : Int) := of_decide_eq_true (by first | (with_reducible assumption) | assumption)
              have q464 : x25_1 < (y461.length : Int) := of_decide_eq_true (by first | (with_reducible assumption) | assumption)
              obtain ⟨ad464, e464, hx464_0⟩ := Kd.at_int (Kd.R_reads' HO_23.out).2.2 x25_1 p464 q464
              cases e464
              replace p464 := eq_true p464
              replace q464 := eq_true q464
              go_wp2_with (first | ((with_reducible refine gate_callee (f := 23) rfl ?_); refine goesL_ (some 52) rfl rfl Tryz.func23 (by kernel_rfl) rfl #[.slice (some ad464) y461.length co14] rfl (by (try simp only [List.map_toArray, List.map_cons, List.map_nil]); first | done | rfl | (simp only [List.length_drop, List.length_take]; rfl)) ?_; (with_reducible refine (unit_Units_Check.calls k1 _ _ y461 t469 _ ?side1 ?side2 A30.out).mono ?_); (case side1 => repeat (first | exact (Kd.R_reads' HO_7.out).2.2 | (with_reducible refine Kd.C_alloc ?_ _) | (with_reducible refine Kd.C_drewN ?_ _) | (with_reducible refine Kd.C_drew ?_))); (case side2 => exact (Kd.R_reads' HO_7.out).2.1); rintro e w' ⟨rfl, ⟨nd, rfl⟩⟩; refine ⟨_, rfl, ?_⟩))
              go_ret
              exact ⟨by first | rfl | (simp [errW_none, errW_some] <;> rfl) | (simp [*, errW_none, errW_some] <;> rfl), by repeat (first | (with_reducible first | exact HB.out | apply below_alloc | apply pw_below_drewN | apply below_drew1) | exact HB.out)⟩
            ·rw [if_neg c29] at H
             have c29b0 : decide (40 < (y461.length : Int)) = false := decide_eq_false c29
             have c29b1 : decide (40 < y461.length) = false := decide_eq_false (by omega)
             clear c29
             replace H := Option.bind_eq_some_iff.mp H
             obtain ⟨t471, A340, H⟩ := H
             replace H : (if t471 = 5 then ((unit_Code.f a1).bind fun t472 => (if a1 ≥ 1 then (some (t472 == (decide (a1 ≤ 999)))) else (some (t472 == false)))) else (some false)) = some r := H
             have A34 := Aside0.mk A340
             clear A340
             by_cases c35 : t471 = 5
             ·rw [if_pos c35] at H
              have c35b0 : (t471 == 5) = true := beq_iff_eq.mpr c35
              have c35b1 : (t471 != 5) = false := bne_eq_false_iff_eq.mpr c35
              clear c35
              replace H := Option.bind_eq_some_iff.mp H
              obtain ⟨t472, A360, H⟩ := H
              replace H : (if a1 ≥ 1 then (some (t472 == (decide (a1 ≤ 999)))) else (some (t472 == false))) = some r := H
              have A36 := Aside0.mk A360
              clear A360
              by_cases c37 : a1 ≥ 1
              ·rw [if_pos c37] at H
               have c37b0 : decide (1 ≤ a1) = true := decide_eq_true c37
               clear c37
               obtain rfl := Option.some.inj H
               have p464 : 0 ≤ (x25_1 : Int) := of_decide_eq_true (by first | (with_reducible assumption) | assumption)
               have q464 : x25_1 < (y461.length : Int) := of_decide_eq_true (by first | (with_reducible assumption) | assumption)
               obtain ⟨ad464, e464, hx464_0⟩ := Kd.at_int (Kd.R_reads' HO_23.out).2.2 x25_1 p464 q464
               cases e464
               replace p464 := eq_true p464
               replace q464 := eq_true q464
               go_wp2_with (first | ((with_reducible refine gate_callee (f := 23) rfl ?_); refine goesL_ (some 52) rfl rfl Tryz.func23 (by kernel_rfl) rfl #[.slice (some ad464) y461.length co14] rfl (by (try simp only [List.map_toArray, List.map_cons, List.map_nil]); first | done | rfl | (simp only [List.length_drop, List.length_take]; rfl)) ?_; (with_reducible refine (unit_Units_Check.calls k1 _ _ y461 t471 _ ?side1 ?side2 A34.out).mono ?_); (case side1 => repeat (first | exact (Kd.R_reads' HO_7.out).2.2 | (with_reducible refine Kd.C_alloc ?_ _) | (with_reducible refine Kd.C_drewN ?_ _) | (with_reducible refine Kd.C_drew ?_))); (case side2 => exact (Kd.R_reads' HO_7.out).2.1); rintro e w' ⟨rfl, ⟨nd, rfl⟩⟩; refine ⟨_, rfl, ?_⟩) | (go_at_call 26; (with_reducible refine (unit_Code.calls a1 t472 _ A36.out).mono ?_); rintro e w' ⟨rfl, ⟨nd, rfl⟩⟩))
               go_ret
               exact ⟨by first | rfl | (simp [errW_none, errW_some] <;> rfl) | (simp [*, errW_none, errW_some] <;> rfl), by repeat (first | (with_reducible first | exact HB.out | apply below_alloc | apply pw_below_drewN | apply below_drew1) | exact HB.out)⟩
              ·rw [if_neg c37] at H
               have c37b0 : decide (1 ≤ a1) = false := decide_eq_false c37
               clear c37
               obtain rfl := Option.some.inj H
               have p464 : 0 ≤ (x25_1 : Int) := of_decide_eq_true (by first | (with_reducible assumption) | assumption)
               have q464 : x25_1 < (y461.length : Int) := of_decide_eq_true (by first | (with_reducible assumption) | assumption)
               obtain ⟨ad464, e464, hx464_0⟩ := Kd.at_int (Kd.R_reads' HO_23.out).2.2 x25_1 p464 q464
               cases e464
               replace p464 := eq_true p464
               replace q464 := eq_true q464
               go_wp2_with (first | ((with_reducible refine gate_callee (f := 23) rfl ?_); refine goesL_ (some 52) rfl rfl Tryz.func23 (by kernel_rfl) rfl #[.slice (some ad464) y461.length co14] rfl (by (try simp only [List.map_toArray, List.map_cons, List.map_nil]); first | done | rfl | (simp only [List.length_drop, List.length_take]; rfl)) ?_; (with_reducible refine (unit_Units_Check.calls k1 _ _ y461 t471 _ ?side1 ?side2 A34.out).mono ?_); (case side1 => repeat (first | exact (Kd.R_reads' HO_7.out).2.2 | (with_reducible refine Kd.C_alloc ?_ _) | (with_reducible refine Kd.C_drewN ?_ _) | (with_reducible refine Kd.C_drew ?_))); (case side2 => exact (Kd.R_reads' HO_7.out).2.1); rintro e w' ⟨rfl, ⟨nd, rfl⟩⟩; refine ⟨_, rfl, ?_⟩) | (go_at_call 26; (with_reducible refine (unit_Code.calls a1 t472 _ A36.out).mono ?_); rintro e w' ⟨rfl, ⟨nd, rfl⟩⟩))
               go_ret
               exact ⟨by first | rfl | (simp [errW_none, errW_some] <;> rfl) | (simp [*, errW_none, errW_some] <;> rfl), by repeat (first | (with_reducible first | exact HB.out | apply below_alloc | apply pw_below_drewN | apply below_drew1) | exact HB.out)⟩
             ·rw [if_neg c35] at H
              have c35b0 : (t471 == 5) = false := beq_eq_false_iff_ne.mpr c35
              have c35b1 : (t471 != 5) = true := bne_iff_ne.mpr c35
              obtain rfl := Option.some.inj H
              have p464 : 0 ≤ (x25_1 : Int) := of_decide_eq_true (by first | (with_reducible assumption) | assumption)
              have q464 : x25_1 < (y461.length : Int) := of_decide_eq_true (by first | (with_reducible assumption) | assumption)
              obtain ⟨ad464, e464, hx464_0⟩ := Kd.at_int (Kd.R_reads' HO_23.out).2.2 x25_1 p464 q464
              cases e464
              replace p464 := eq_true p464
              replace q464 := eq_true q464
              go_wp2_with (first | ((with_reducible refine gate_callee (f := 23) rfl ?_); refine goesL_ (some 52) rfl rfl Tryz.func23 (by kernel_rfl) rfl #[.slice (some ad464) y461.length co14] rfl (by (try simp only [List.map_toArray, List.map_cons, List.map_nil]); first | done | rfl | (simp only [List.length_drop, List.length_take]; rfl)) ?_; (with_reducible refine (unit_Units_Check.calls k1 _ _ y461 t471 _ ?side1 ?side2 A34.out).mono ?_); (case side1 => repeat (first | exact (Kd.R_reads' HO_7.out).2.2 | (with_reducible refine Kd.C_alloc ?_ _) | (with_reducible refine Kd.C_drewN ?_ _) | (with_reducible refine Kd.C_drew ?_))); (case side2 => exact (Kd.R_reads' HO_7.out).2.1); rintro e w' ⟨rfl, ⟨nd, rfl⟩⟩; refine ⟨_, rfl, ?_⟩))
              go_ret
              exact ⟨by first | rfl | (simp [errW_none, errW_some] <;> rfl) | (simp [*, errW_none, errW_some] <;> rfl), by repeat (first | (with_reducible first | exact HB.out | apply below_alloc | apply pw_below_drewN | apply below_drew1) | exact HB.out)⟩
           ·rw [if_neg c28] at H
            have c28b0 : decide (999 < (rd y461 x25_1)) = false := decide_eq_false c28
            clear c28
            by_cases c38 : x25_1 > 0
            ·rw [if_pos c38] at H
             have c38b0 : decide (0 < x25_1) = true := decide_eq_true c38
             clear c38
             obtain ⟨ji39, hji39⟩ : ∃ j_ : Int, (wrap64 (x25_1 - 1)) = j_ := ⟨_, rfl⟩
             replace H : (if 0 ≤ (ji39) then (if (ji39) < (y461.length : Int) then (if (rd y461 (ji39)) ≥ (rd y461 x25_1) then (if (y461.length : Int) > 40 then ((unit_Units_Check.f k1 y461).bind fun t474 => (if t474 = 2 then ((unit_Code.f a1).bind fun t475 => (if a1 ≥ 1 then (some (t475 == (decide (a1 ≤ 999)))) else (some (t475 == false)))) else (some false))) else ((unit_Units_Check.f k1 y461).bind fun t476 => (if t476 = 6 then ((unit_Code.f a1).bind fun t477 => (if a1 ≥ 1 then (some (t477 == (decide (a1 ≤ 999)))) else (some (t477 == false)))) else (some false)))) else (transposallaw07_UnitChecks.l0 k1 a1 y461 x8_1 y461 (y461.length : Int) (wrap64 (x25_1 + 1)))) else (none)) else (none)) = some r := by first | (rw [hji39] at H; exact H) | (simp only [hji39] at H ⊢; exact H)
             have hji39w : (IntKind.i64.wrap (x25_1 - 1)) = ji39 := (i64_w _).trans hji39
             by_cases c40 : 0 ≤ (ji39)
             ·rw [if_pos c40] at H
              have c40b0 : decide (0 ≤ (ji39)) = true := decide_eq_true c40
              clear c40
              by_cases c41 : (ji39) < (y461.length : Int)
              ·rw [if_pos c41] at H
               have c41b0 : decide ((ji39) < (y461.length : Int)) = true := decide_eq_true c41
               clear c41
               by_cases c42 : (rd y461 (ji39)) ≥ (rd y461 x25_1)
               ·rw [if_pos c42] at H
                have c42b0 : decide ((rd y461 x25_1) ≤ (rd y461 (ji39))) = true := decide_eq_true c42
                clear c42
                by_cases c43 : (y461.length : Int) > 40
                ·rw [if_pos c43] at H
                 have c43b0 : decide (40 < (y461.length : Int)) = true := decide_eq_true c43
                 have c43b1 : decide (40 < y461.length) = true := decide_eq_true (by omega)
                 clear c43
                 replace H := Option.bind_eq_some_iff.mp H
                 obtain ⟨t474, A440, H⟩ := H
                 replace H : (if t474 = 2 then ((unit_Code.f a1).bind fun t475 => (if a1 ≥ 1 then (some (t475 == (decide (a1 ≤ 999)))) else (some (t475 == false)))) else (some false)) = some r := H
                 have A44 := Aside0.mk A440
                 clear A440
                 by_cases c45 : t474 = 2
                 ·rw [if_pos c45] at H
                  have c45b0 : (t474 == 2) = true := beq_iff_eq.mpr c45
                  have c45b1 : (t474 != 2) = false := bne_eq_false_iff_eq.mpr c45
                  clear c45
                  replace H := Option.bind_eq_some_iff.mp H
                  obtain ⟨t475, A460, H⟩ := H
                  replace H : (if a1 ≥ 1 then (some (t475 == (decide (a1 ≤ 999)))) else (some (t475 == false))) = some r := H
                  have A46 := Aside0.mk A460
                  clear A460
                  by_cases c47 : a1 ≥ 1
                  ·rw [if_pos c47] at H
                   have c47b0 : decide (1 ≤ a1) = true := decide_eq_true c47
                   clear c47
                   obtain rfl := Option.some.inj H
                   have p464 : 0 ≤ (x25_1 : Int) := of_decide_eq_true (by first | (with_reducible assumption) | assumption)
                   have q464 : x25_1 < (y461.length : Int) := of_decide_eq_true (by first | (with_reducible assumption) | assumption)
                   obtain ⟨ad464, e464, hx464_0⟩ := Kd.at_int (Kd.R_reads' HO_23.out).2.2 x25_1 p464 q464
                   cases e464
                   replace p464 := eq_true p464
                   replace q464 := eq_true q464
                   have p473 : 0 ≤ ((ji39) : Int) := of_decide_eq_true (by first | (with_reducible assumption) | assumption)
                   have q473 : (ji39) < (y461.length : Int) := of_decide_eq_true (by first | (with_reducible assumption) | assumption)
                   obtain ⟨ad473, e473, hx473_0⟩ := Kd.at_int (Kd.R_reads' HO_7.out).2.2 (ji39) p473 q473
                   obtain rfl : ad464 = ad473 := (by injection e473)
                   replace p473 := eq_true p473
                   replace q473 := eq_true q473
                   go_wp2_with (first | ((with_reducible refine gate_callee (f := 23) rfl ?_); refine goesL_ (some 52) rfl rfl Tryz.func23 (by kernel_rfl) rfl #[.slice (some ad464) y461.length co14] rfl (by (try simp only [List.map_toArray, List.map_cons, List.map_nil]); first | done | rfl | (simp only [List.length_drop, List.length_take]; rfl)) ?_; (with_reducible refine (unit_Units_Check.calls k1 _ _ y461 t474 _ ?side1 ?side2 A44.out).mono ?_); (case side1 => repeat (first | exact (Kd.R_reads' HO_7.out).2.2 | (with_reducible refine Kd.C_alloc ?_ _) | (with_reducible refine Kd.C_drewN ?_ _) | (with_reducible refine Kd.C_drew ?_))); (case side2 => exact (Kd.R_reads' HO_7.out).2.1); rintro e w' ⟨rfl, ⟨nd, rfl⟩⟩; refine ⟨_, rfl, ?_⟩) | (go_at_call 26; (with_reducible refine (unit_Code.calls a1 t475 _ A46.out).mono ?_); rintro e w' ⟨rfl, ⟨nd, rfl⟩⟩))
                   go_ret
                   exact ⟨by first | rfl | (simp [errW_none, errW_some] <;> rfl) | (simp only [← hji39]; first | rfl | (simp [errW_none, errW_some] <;> rfl)) | (simp [*, errW_none, errW_some] <;> rfl), by repeat (first | (with_reducible first | exact HB.out | apply below_alloc | apply pw_below_drewN | apply below_drew1) | exact HB.out)⟩
                  ·rw [if_neg c47] at H
                   have c47b0 : decide (1 ≤ a1) = false := decide_eq_false c47
                   clear c47
                   obtain rfl := Option.some.inj H
                   have p464 : 0 ≤ (x25_1 : Int) := of_decide_eq_true (by first | (with_reducible assumption) | assumption)
                   have q464 : x25_1 < (y461.length : Int) := of_decide_eq_true (by first | (with_reducible assumption) | assumption)
                   obtain ⟨ad464, e464, hx464_0⟩ := Kd.at_int (Kd.R_reads' HO_23.out).2.2 x25_1 p464 q464
                   cases e464
                   replace p464 := eq_true p464
                   replace q464 := eq_true q464
                   have p473 : 0 ≤ ((ji39) : Int) := of_decide_eq_true (by first | (with_reducible assumption) | assumption)
                   have q473 : (ji39) < (y461.length : Int) := of_decide_eq_true (by first | (with_reducible assumption) | assumption)
                   obtain ⟨ad473, e473, hx473_0⟩ := Kd.at_int (Kd.R_reads' HO_7.out).2.2 (ji39) p473 q473
                   obtain rfl : ad464 = ad473 := (by injection e473)
                   replace p473 := eq_true p473
                   replace q473 := eq_true q473
                   go_wp2_with (first | ((with_reducible refine gate_callee (f := 23) rfl ?_); refine goesL_ (some 52) rfl rfl Tryz.func23 (by kernel_rfl) rfl #[.slice (some ad464) y461.length co14] rfl (by (try simp only [List.map_toArray, List.map_cons, List.map_nil]); first | done | rfl | (simp only [List.length_drop, List.length_take]; rfl)) ?_; (with_reducible refine (unit_Units_Check.calls k1 _ _ y461 t474 _ ?side1 ?side2 A44.out).mono ?_); (case side1 => repeat (first | exact (Kd.R_reads' HO_7.out).2.2 | (with_reducible refine Kd.C_alloc ?_ _) | (with_reducible refine Kd.C_drewN ?_ _) | (with_reducible refine Kd.C_drew ?_))); (case side2 => exact (Kd.R_reads' HO_7.out).2.1); rintro e w' ⟨rfl, ⟨nd, rfl⟩⟩; refine ⟨_, rfl, ?_⟩) | (go_at_call 26; (with_reducible refine (unit_Code.calls a1 t475 _ A46.out).mono ?_); rintro e w' ⟨rfl, ⟨nd, rfl⟩⟩))
                   go_ret
                   exact ⟨by first | rfl | (simp [errW_none, errW_some] <;> rfl) | (simp only [← hji39]; first | rfl | (simp [errW_none, errW_some] <;> rfl)) | (simp [*, errW_none, errW_some] <;> rfl), by repeat (first | (with_reducible first | exact HB.out | apply below_alloc | apply pw_below_drewN | apply below_drew1) | exact HB.out)⟩
                 ·rw [if_neg c45] at H
                  have c45b0 : (t474 == 2) = false := beq_eq_false_iff_ne.mpr c45
                  have c45b1 : (t474 != 2) = true := bne_iff_ne.mpr c45
                  obtain rfl := Option.some.inj H
                  have p464 : 0 ≤ (x25_1 : Int) := of_decide_eq_true (by first | (with_reducible assumption) | assumption)
                  have q464 : x25_1 < (y461.length : Int) := of_decide_eq_true (by first | (with_reducible assumption) | assumption)
                  obtain ⟨ad464, e464, hx464_0⟩ := Kd.at_int (Kd.R_reads' HO_23.out).2.2 x25_1 p464 q464
                  cases e464
                  replace p464 := eq_true p464
                  replace q464 := eq_true q464
                  have p473 : 0 ≤ ((ji39) : Int) := of_decide_eq_true (by first | (with_reducible assumption) | assumption)
                  have q473 : (ji39) < (y461.length : Int) := of_decide_eq_true (by first | (with_reducible assumption) | assumption)
                  obtain ⟨ad473, e473, hx473_0⟩ := Kd.at_int (Kd.R_reads' HO_7.out).2.2 (ji39) p473 q473
                  obtain rfl : ad464 = ad473 := (by injection e473)
                  replace p473 := eq_true p473
                  replace q473 := eq_true q473
                  go_wp2_with (first | ((with_reducible refine gate_callee (f := 23) rfl ?_); refine goesL_ (some 52) rfl rfl Tryz.func23 (by kernel_rfl) rfl #[.slice (some ad464) y461.length co14] rfl (by (try simp only [List.map_toArray, List.map_cons, List.map_nil]); first | done | rfl | (simp only [List.length_drop, List.length_take]; rfl)) ?_; (with_reducible refine (unit_Units_Check.calls k1 _ _ y461 t474 _ ?side1 ?side2 A44.out).mono ?_); (case side1 => repeat (first | exact (Kd.R_reads' HO_7.out).2.2 | (with_reducible refine Kd.C_alloc ?_ _) | (with_reducible refine Kd.C_drewN ?_ _) | (with_reducible refine Kd.C_drew ?_))); (case side2 => exact (Kd.R_reads' HO_7.out).2.1); rintro e w' ⟨rfl, ⟨nd, rfl⟩⟩; refine ⟨_, rfl, ?_⟩))
                  go_ret
                  exact ⟨by first | rfl | (simp [errW_none, errW_some] <;> rfl) | (simp only [← hji39]; first | rfl | (simp [errW_none, errW_some] <;> rfl)) | (simp [*, errW_none, errW_some] <;> rfl), by repeat (first | (with_reducible first | exact HB.out | apply below_alloc | apply pw_below_drewN | apply below_drew1) | exact HB.out)⟩
                ·rw [if_neg c43] at H
                 have c43b0 : decide (40 < (y461.length : Int)) = false := decide_eq_false c43
                 have c43b1 : decide (40 < y461.length) = false := decide_eq_false (by omega)
                 clear c43
                 replace H := Option.bind_eq_some_iff.mp H
                 obtain ⟨t476, A480, H⟩ := H
                 replace H : (if t476 = 6 then ((unit_Code.f a1).bind fun t477 => (if a1 ≥ 1 then (some (t477 == (decide (a1 ≤ 999)))) else (some (t477 == false)))) else (some false)) = some r := H
                 have A48 := Aside0.mk A480
                 clear A480
                 by_cases c49 : t476 = 6
                 ·rw [if_pos c49] at H
                  have c49b0 : (t476 == 6) = true := beq_iff_eq.mpr c49
                  have c49b1 : (t476 != 6) = false := bne_eq_false_iff_eq.mpr c49
                  clear c49
                  replace H := Option.bind_eq_some_iff.mp H
                  obtain ⟨t477, A500, H⟩ := H
                  replace H : (if a1 ≥ 1 then (some (t477 == (decide (a1 ≤ 999)))) else (some (t477 == false))) = some r := H
                  have A50 := Aside0.mk A500
                  clear A500
                  by_cases c51 : a1 ≥ 1
                  ·rw [if_pos c51] at H
                   have c51b0 : decide (1 ≤ a1) = true := decide_eq_true c51
                   clear c51
                   obtain rfl := Option.some.inj H
                   have p464 : 0 ≤ (x25_1 : Int) := of_decide_eq_true (by first | (with_reducible assumption) | assumption)
                   have q464 : x25_1 < (y461.length : Int) := of_decide_eq_true (by first | (with_reducible assumption) | assumption)
                   obtain ⟨ad464, e464, hx464_0⟩ := Kd.at_int (Kd.R_reads' HO_23.out).2.2 x25_1 p464 q464
                   cases e464
                   replace p464 := eq_true p464
                   replace q464 := eq_true q464
                   have p473 : 0 ≤ ((ji39) : Int) := of_decide_eq_true (by first | (with_reducible assumption) | assumption)
                   have q473 : (ji39) < (y461.length : Int) := of_decide_eq_true (by first | (with_reducible assumption) | assumption)
                   obtain ⟨ad473, e473, hx473_0⟩ := Kd.at_int (Kd.R_reads' HO_7.out).2.2 (ji39) p473 q473
                   obtain rfl : ad464 = ad473 := (by injection e473)
                   replace p473 := eq_true p473
                   replace q473 := eq_true q473
                   go_wp2_with (first | ((with_reducible refine gate_callee (f := 23) rfl ?_); refine goesL_ (some 52) rfl rfl Tryz.func23 (by kernel_rfl) rfl #[.slice (some ad464) y461.length co14] rfl (by (try simp only [List.map_toArray, List.map_cons, List.map_nil]); first | done | rfl | (simp only [List.length_drop, List.length_take]; rfl)) ?_; (with_reducible refine (unit_Units_Check.calls k1 _ _ y461 t476 _ ?side1 ?side2 A48.out).mono ?_); (case side1 => repeat (first | exact (Kd.R_reads' HO_7.out).2.2 | (with_reducible refine Kd.C_alloc ?_ _) | (with_reducible refine Kd.C_drewN ?_ _) | (with_reducible refine Kd.C_drew ?_))); (case side2 => exact (Kd.R_reads' HO_7.out).2.1); rintro e w' ⟨rfl, ⟨nd, rfl⟩⟩; refine ⟨_, rfl, ?_⟩) | (go_at_call 26; (with_reducible refine (unit_Code.calls a1 t477 _ A50.out).mono ?_); rintro e w' ⟨rfl, ⟨nd, rfl⟩⟩))
                   go_ret
                   exact ⟨by first | rfl | (simp [errW_none, errW_some] <;> rfl) | (simp only [← hji39]; first | rfl | (simp [errW_none, errW_some] <;> rfl)) | (simp [*, errW_none, errW_some] <;> rfl), by repeat (first | (with_reducible first | exact HB.out | apply below_alloc | apply pw_below_drewN | apply below_drew1) | exact HB.out)⟩
                  ·rw [if_neg c51] at H
                   have c51b0 : decide (1 ≤ a1) = false := decide_eq_false c51
                   clear c51
                   obtain rfl := Option.some.inj H
                   have p464 : 0 ≤ (x25_1 : Int) := of_decide_eq_true (by first | (with_reducible assumption) | assumption)
                   have q464 : x25_1 < (y461.length : Int) := of_decide_eq_true (by first | (with_reducible assumption) | assumption)
                   obtain ⟨ad464, e464, hx464_0⟩ := Kd.at_int (Kd.R_reads' HO_23.out).2.2 x25_1 p464 q464
                   cases e464
                   replace p464 := eq_true p464
                   replace q464 := eq_true q464
                   have p473 : 0 ≤ ((ji39) : Int) := of_decide_eq_true (by first | (with_reducible assumption) | assumption)
                   have q473 : (ji39) < (y461.length : Int) := of_decide_eq_true (by first | (with_reducible assumption) | assumption)
                   obtain ⟨ad473, e473, hx473_0⟩ := Kd.at_int (Kd.R_reads' HO_7.out).2.2 (ji39) p473 q473
                   obtain rfl : ad464 = ad473 := (by injection e473)
                   replace p473 := eq_true p473
                   replace q473 := eq_true q473
                   go_wp2_with (first | ((with_reducible refine gate_callee (f := 23) rfl ?_); refine goesL_ (some 52) rfl rfl Tryz.func23 (by kernel_rfl) rfl #[.slice (some ad464) y461.length co14] rfl (by (try simp only [List.map_toArray, List.map_cons, List.map_nil]); first | done | rfl | (simp only [List.length_drop, List.length_take]; rfl)) ?_; (with_reducible refine (unit_Units_Check.calls k1 _ _ y461 t476 _ ?side1 ?side2 A48.out).mono ?_); (case side1 => repeat (first | exact (Kd.R_reads' HO_7.out).2.2 | (with_reducible refine Kd.C_alloc ?_ _) | (with_reducible refine Kd.C_drewN ?_ _) | (with_reducible refine Kd.C_drew ?_))); (case side2 => exact (Kd.R_reads' HO_7.out).2.1); rintro e w' ⟨rfl, ⟨nd, rfl⟩⟩; refine ⟨_, rfl, ?_⟩) | (go_at_call 26; (with_reducible refine (unit_Code.calls a1 t477 _ A50.out).mono ?_); rintro e w' ⟨rfl, ⟨nd, rfl⟩⟩))
                   go_ret
                   exact ⟨by first | rfl | (simp [errW_none, errW_some] <;> rfl) | (simp only [← hji39]; first | rfl | (simp [errW_none, errW_some] <;> rfl)) | (simp [*, errW_none, errW_some] <;> rfl), by repeat (first | (with_reducible first | exact HB.out | apply below_alloc | apply pw_below_drewN | apply below_drew1) | exact HB.out)⟩
                 ·rw [if_neg c49] at H
                  have c49b0 : (t476 == 6) = false := beq_eq_false_iff_ne.mpr c49
                  have c49b1 : (t476 != 6) = true := bne_iff_ne.mpr c49
                  obtain rfl := Option.some.inj H
                  have p464 : 0 ≤ (x25_1 : Int) := of_decide_eq_true (by first | (with_reducible assumption) | assumption)
                  have q464 : x25_1 < (y461.length : Int) := of_decide_eq_true (by first | (with_reducible assumption) | assumption)
                  obtain ⟨ad464, e464, hx464_0⟩ := Kd.at_int (Kd.R_reads' HO_23.out).2.2 x25_1 p464 q464
                  cases e464
                  replace p464 := eq_true p464
                  replace q464 := eq_true q464
                  have p473 : 0 ≤ ((ji39) : Int) := of_decide_eq_true (by first | (with_reducible assumption) | assumption)
                  have q473 : (ji39) < (y461.length : Int) := of_decide_eq_true (by first | (with_reducible assumption) | assumption)
                  obtain ⟨ad473, e473, hx473_0⟩ := Kd.at_int (Kd.R_reads' HO_7.out).2.2 (ji39) p473 q473
                  obtain rfl : ad464 = ad473 := (by injection e473)
                  replace p473 := eq_true p473
                  replace q473 := eq_true q473
                  go_wp2_with (first | ((with_reducible refine gate_callee (f := 23) rfl ?_); refine goesL_ (some 52) rfl rfl Tryz.func23 (by kernel_rfl) rfl #[.slice (some ad464) y461.length co14] rfl (by (try simp only [List.map_toArray, List.map_cons, List.map_nil]); first | done | rfl | (simp only [List.length_drop, List.length_take]; rfl)) ?_; (with_reducible refine (unit_Units_Check.calls k1 _ _ y461 t476 _ ?side1 ?side2 A48.out).mono ?_); (case side1 => repeat (first | exact (Kd.R_reads' HO_7.out).2.2 | (with_reducible refine Kd.C_alloc ?_ _) | (with_reducible refine Kd.C_drewN ?_ _) | (with_reducible refine Kd.C_drew ?_))); (case side2 => exact (Kd.R_reads' HO_7.out).2.1); rintro e w' ⟨rfl, ⟨nd, rfl⟩⟩; refine ⟨_, rfl, ?_⟩))
                  go_ret
                  exact ⟨by first | rfl | (simp [errW_none, errW_some] <;> rfl) | (simp only [← hji39]; first | rfl | (simp [errW_none, errW_some] <;> rfl)) | (simp [*, errW_none, errW_some] <;> rfl), by repeat (first | (with_reducible first | exact HB.out | apply below_alloc | apply pw_below_drewN | apply below_drew1) | exact HB.out)⟩
               ·rw [if_neg c42] at H
                have c42b0 : decide ((rd y461 x25_1) ≤ (rd y461 (ji39))) = false := decide_eq_false c42
                clear c42
                have H' := Aside0.mk H
                clear H
                have p464 : 0 ≤ (x25_1 : Int) := of_decide_eq_true (by first | (with_reducible assumption) | assumption)
                have q464 : x25_1 < (y461.length : Int) := of_decide_eq_true (by first | (with_reducible assumption) | assumption)
                obtain ⟨ad464, e464, hx464_0⟩ := Kd.at_int (Kd.R_reads' HO_23.out).2.2 x25_1 p464 q464
                cases e464
                replace p464 := eq_true p464
                replace q464 := eq_true q464
                have p473 : 0 ≤ ((ji39) : Int) := of_decide_eq_true (by first | (with_reducible assumption) | assumption)
                have q473 : (ji39) < (y461.length : Int) := of_decide_eq_true (by first | (with_reducible assumption) | assumption)
                obtain ⟨ad473, e473, hx473_0⟩ := Kd.at_int (Kd.R_reads' HO_7.out).2.2 (ji39) p473 q473
                obtain rfl : ad464 = ad473 := (by injection e473)
                replace p473 := eq_true p473
                replace q473 := eq_true q473
                go_wp2
                go_roundg k1
                case measure => have := HK1.out; omega
                case rel => exact ⟨(x8_1), (wrap64 (x25_1 + 1)), (by first | rfl | (simp; done) | (simp [*]; done)), (by first | rfl | (simp; done) | (simp [*]; done)), H', ⟨by have := HK1.out; omega⟩, ⟨by (with_reducible repeat (first | apply Kd.R_alloc | apply Kd.R_drewN | apply Kd.R_drew)); exact HO_7.out⟩, ⟨by (with_reducible repeat (first | apply Kd.R_alloc | apply Kd.R_drewN | apply Kd.R_drew)); exact HO_23.out⟩, ⟨by repeat (first | (with_reducible first | exact HB.out | apply below_alloc | apply pw_below_drewN | apply below_drew1) | exact HB.out)⟩⟩
              ·rw [if_neg c41] at H
               exact absurd H (by simp)
             ·rw [if_neg c40] at H
              exact absurd H (by simp)
            ·rw [if_neg c38] at H
             have c38b0 : decide (0 < x25_1) = false := decide_eq_false c38
             clear c38
             have H' := Aside0.mk H
             clear H
             have p464 : 0 ≤ (x25_1 : Int) := of_decide_eq_true (by first | (with_reducible assumption) | assumption)
             have q464 : x25_1 < (y461.length : Int) := of_decide_eq_true (by first | (with_reducible assumption) | assumption)
             obtain ⟨ad464, e464, hx464_0⟩ := Kd.at_int (Kd.R_reads' HO_23.out).2.2 x25_1 p464 q464
             cases e464
             replace p464 := eq_true p464
             replace q464 := eq_true q464
             go_wp2
             go_roundg k1
             case measure => have := HK1.out; omega
             case rel => exact ⟨(x8_1), (wrap64 (x25_1 + 1)), (by first | rfl | (simp; done) | (simp [*]; done)), (by first | rfl | (simp; done) | (simp [*]; done)), H', ⟨by have := HK1.out; omega⟩, ⟨by (with_reducible repeat (first | apply Kd.R_alloc | apply Kd.R_drewN | apply Kd.R_drew)); exact HO_7.out⟩, ⟨by (with_reducible repeat (first | apply Kd.R_alloc | apply Kd.R_drewN | apply Kd.R_drew)); exact HO_23.out⟩, ⟨by repeat (first | (with_reducible first | exact HB.out | apply below_alloc | apply pw_below_drewN | apply below_drew1) | exact HB.out)⟩⟩
         ·rw [if_neg c17] at H
          exact absurd H (by simp)
        ·rw [if_neg c16] at H
         exact absurd H (by simp)
       ·rw [if_neg c15] at H
        have c15b0 : decide (x25_1 < (y461.length : Int)) = false := decide_eq_false c15
        clear c15
        by_cases c52 : (y461.length : Int) > 40
        ·rw [if_pos c52] at H
         have c52b0 : decide (40 < (y461.length : Int)) = true := decide_eq_true c52
         have c52b1 : decide (40 < y461.length) = true := decide_eq_true (by omega)
         clear c52
         replace H := Option.bind_eq_some_iff.mp H
         obtain ⟨t478, A530, H⟩ := H
         replace H : (if t478 = 2 then ((unit_Code.f a1).bind fun t479 => (if a1 ≥ 1 then (some (t479 == (decide (a1 ≤ 999)))) else (some (t479 == false)))) else (some false)) = some r := H
         have A53 := Aside0.mk A530
         clear A530
         by_cases c54 : t478 = 2
         ·rw [if_pos c54] at H
          have c54b0 : (t478 == 2) = true := beq_iff_eq.mpr c54
          have c54b1 : (t478 != 2) = false := bne_eq_false_iff_eq.mpr c54
          clear c54
          replace H := Option.bind_eq_some_iff.mp H
          obtain ⟨t479, A550, H⟩ := H
          replace H : (if a1 ≥ 1 then (some (t479 == (decide (a1 ≤ 999)))) else (some (t479 == false))) = some r := H
          have A55 := Aside0.mk A550
          clear A550
          by_cases c56 : a1 ≥ 1
          ·rw [if_pos c56] at H
           have c56b0 : decide (1 ≤ a1) = true := decide_eq_true c56
           clear c56
           obtain rfl := Option.some.inj H
           go_wp2_with (first | ((with_reducible refine gate_callee (f := 23) rfl ?_); refine goesL_ (some 52) rfl rfl Tryz.func23 (by kernel_rfl) rfl #[.slice Ao14 y461.length co14] rfl (by (try simp only [List.map_toArray, List.map_cons, List.map_nil]); first | done | rfl | (simp only [List.length_drop, List.length_take]; rfl)) ?_; (with_reducible refine (unit_Units_Check.calls k1 _ _ y461 t478 _ ?side1 ?side2 A53.out).mono ?_); (case side1 => repeat (first | exact (Kd.R_reads' HO_7.out).2.2 | (with_reducible refine Kd.C_alloc ?_ _) | (with_reducible refine Kd.C_drewN ?_ _) | (with_reducible refine Kd.C_drew ?_))); (case side2 => exact (Kd.R_reads' HO_7.out).2.1); rintro e w' ⟨rfl, ⟨nd, rfl⟩⟩; refine ⟨_, rfl, ?_⟩) | (go_at_call 26; (with_reducible refine (unit_Code.calls a1 t479 _ A55.out).mono ?_); rintro e w' ⟨rfl, ⟨nd, rfl⟩⟩))
           go_ret
           exact ⟨by first | rfl | (simp [errW_none, errW_some] <;> rfl) | (simp [*, errW_none, errW_some] <;> rfl), by repeat (first | (with_reducible first | exact HB.out | apply below_alloc | apply pw_below_drewN | apply below_drew1) | exact HB.out)⟩
          ·rw [if_neg c56] at H
           have c56b0 : decide (1 ≤ a1) = false := decide_eq_false c56
           clear c56
           obtain rfl := Option.some.inj H
           go_wp2_with (first | ((with_reducible refine gate_callee (f := 23) rfl ?_); refine goesL_ (some 52) rfl rfl Tryz.func23 (by kernel_rfl) rfl #[.slice Ao14 y461.length co14] rfl (by (try simp only [List.map_toArray, List.map_cons, List.map_nil]); first | done | rfl | (simp only [List.length_drop, List.length_take]; rfl)) ?_; (with_reducible refine (unit_Units_Check.calls k1 _ _ y461 t478 _ ?side1 ?side2 A53.out).mono ?_); (case side1 => repeat (first | exact (Kd.R_reads' HO_7.out).2.2 | (with_reducible refine Kd.C_alloc ?_ _) | (with_reducible refine Kd.C_drewN ?_ _) | (with_reducible refine Kd.C_drew ?_))); (case side2 => exact (Kd.R_reads' HO_7.out).2.1); rintro e w' ⟨rfl, ⟨nd, rfl⟩⟩; refine ⟨_, rfl, ?_⟩) | (go_at_call 26; (with_reducible refine (unit_Code.calls a1 t479 _ A55.out).mono ?_); rintro e w' ⟨rfl, ⟨nd, rfl⟩⟩))
           go_ret
           exact ⟨by first | rfl | (simp [errW_none, errW_some] <;> rfl) | (simp [*, errW_none, errW_some] <;> rfl), by repeat (first | (with_reducible first | exact HB.out | apply below_alloc | apply pw_below_drewN | apply below_drew1) | exact HB.out)⟩
         ·rw [if_neg c54] at H
          have c54b0 : (t478 == 2) = false := beq_eq_false_iff_ne.mpr c54
          have c54b1 : (t478 != 2) = true := bne_iff_ne.mpr c54
          obtain rfl := Option.some.inj H
          go_wp2_with (first | ((with_reducible refine gate_callee (f := 23) rfl ?_); refine goesL_ (some 52) rfl rfl Tryz.func23 (by kernel_rfl) rfl #[.slice Ao14 y461.length co14] rfl (by (try simp only [List.map_toArray, List.map_cons, List.map_nil]); first | done | rfl | (simp only [List.length_drop, List.length_take]; rfl)) ?_; (with_reducible refine (unit_Units_Check.calls k1 _ _ y461 t478 _ ?side1 ?side2 A53.out).mono ?_); (case side1 => repeat (first | exact (Kd.R_reads' HO_7.out).2.2 | (with_reducible refine Kd.C_alloc ?_ _) | (with_reducible refine Kd.C_drewN ?_ _) | (with_reducible refine Kd.C_drew ?_))); (case side2 => exact (Kd.R_reads' HO_7.out).2.1); rintro e w' ⟨rfl, ⟨nd, rfl⟩⟩; refine ⟨_, rfl, ?_⟩))
          go_ret
          exact ⟨by first | rfl | (simp [errW_none, errW_some] <;> rfl) | (simp [*, errW_none, errW_some] <;> rfl), by repeat (first | (with_reducible first | exact HB.out | apply below_alloc | apply pw_below_drewN | apply below_drew1) | exact HB.out)⟩
        ·rw [if_neg c52] at H
         have c52b0 : decide (40 < (y461.length : Int)) = false := decide_eq_false c52
         have c52b1 : decide (40 < y461.length) = false := decide_eq_false (by omega)
         clear c52
         replace H := Option.bind_eq_some_iff.mp H
         obtain ⟨t480, A570, H⟩ := H
         replace H : (if t480 = x8_1 then ((unit_Code.f a1).bind fun t481 => (if a1 ≥ 1 then (some (t481 == (decide (a1 ≤ 999)))) else (some (t481 == false)))) else (some false)) = some r := H
         have A57 := Aside0.mk A570
         clear A570
         by_cases c58 : t480 = x8_1
         ·rw [if_pos c58] at H
          have c58b0 : (t480 == x8_1) = true := beq_iff_eq.mpr c58
          have c58b1 : (t480 != x8_1) = false := bne_eq_false_iff_eq.mpr c58
          clear c58
          replace H := Option.bind_eq_some_iff.mp H
          obtain ⟨t481, A590, H⟩ := H
          replace H : (if a1 ≥ 1 then (some (t481 == (decide (a1 ≤ 999)))) else (some (t481 == false))) = some r := H
          have A59 := Aside0.mk A590
          clear A590
          by_cases c60 : a1 ≥ 1
          ·rw [if_pos c60] at H
           have c60b0 : decide (1 ≤ a1) = true := decide_eq_true c60
           clear c60
           obtain rfl := Option.some.inj H
           go_wp2_with (first | ((with_reducible refine gate_callee (f := 23) rfl ?_); refine goesL_ (some 52) rfl rfl Tryz.func23 (by kernel_rfl) rfl #[.slice Ao14 y461.length co14] rfl (by (try simp only [List.map_toArray, List.map_cons, List.map_nil]); first | done | rfl | (simp only [List.length_drop, List.length_take]; rfl)) ?_; (with_reducible refine (unit_Units_Check.calls k1 _ _ y461 t480 _ ?side1 ?side2 A57.out).mono ?_); (case side1 => repeat (first | exact (Kd.R_reads' HO_7.out).2.2 | (with_reducible refine Kd.C_alloc ?_ _) | (with_reducible refine Kd.C_drewN ?_ _) | (with_reducible refine Kd.C_drew ?_))); (case side2 => exact (Kd.R_reads' HO_7.out).2.1); rintro e w' ⟨rfl, ⟨nd, rfl⟩⟩; refine ⟨_, rfl, ?_⟩) | (go_at_call 26; (with_reducible refine (unit_Code.calls a1 t481 _ A59.out).mono ?_); rintro e w' ⟨rfl, ⟨nd, rfl⟩⟩))
           go_ret
           exact ⟨by first | rfl | (simp [errW_none, errW_some] <;> rfl) | (simp [*, errW_none, errW_some] <;> rfl), by repeat (first | (with_reducible first | exact HB.out | apply below_alloc | apply pw_below_drewN | apply below_drew1) | exact HB.out)⟩
          ·rw [if_neg c60] at H
           have c60b0 : decide (1 ≤ a1) = false := decide_eq_false c60
           clear c60
           obtain rfl := Option.some.inj H
           go_wp2_with (first | ((with_reducible refine gate_callee (f := 23) rfl ?_); refine goesL_ (some 52) rfl rfl Tryz.func23 (by kernel_rfl) rfl #[.slice Ao14 y461.length co14] rfl (by (try simp only [List.map_toArray, List.map_cons, List.map_nil]); first | done | rfl | (simp only [List.length_drop, List.length_take]; rfl)) ?_; (with_reducible refine (unit_Units_Check.calls k1 _ _ y461 t480 _ ?side1 ?side2 A57.out).mono ?_); (case side1 => repeat (first | exact (Kd.R_reads' HO_7.out).2.2 | (with_reducible refine Kd.C_alloc ?_ _) | (with_reducible refine Kd.C_drewN ?_ _) | (with_reducible refine Kd.C_drew ?_))); (case side2 => exact (Kd.R_reads' HO_7.out).2.1); rintro e w' ⟨rfl, ⟨nd, rfl⟩⟩; refine ⟨_, rfl, ?_⟩) | (go_at_call 26; (with_reducible refine (unit_Code.calls a1 t481 _ A59.out).mono ?_); rintro e w' ⟨rfl, ⟨nd, rfl⟩⟩))
           go_ret
           exact ⟨by first | rfl | (simp [errW_none, errW_some] <;> rfl) | (simp [*, errW_none, errW_some] <;> rfl), by repeat (first | (with_reducible first | exact HB.out | apply below_alloc | apply pw_below_drewN | apply below_drew1) | exact HB.out)⟩
         ·rw [if_neg c58] at H
          have c58b0 : (t480 == x8_1) = false := beq_eq_false_iff_ne.mpr c58
          have c58b1 : (t480 != x8_1) = true := bne_iff_ne.mpr c58
          obtain rfl := Option.some.inj H
          go_wp2_with (first | ((with_reducible refine gate_callee (f := 23) rfl ?_); refine goesL_ (some 52) rfl rfl Tryz.func23 (by kernel_rfl) rfl #[.slice Ao14 y461.length co14] rfl (by (try simp only [List.map_toArray, List.map_cons, List.map_nil]); first | done | rfl | (simp only [List.length_drop, List.length_take]; rfl)) ?_; (with_reducible refine (unit_Units_Check.calls k1 _ _ y461 t480 _ ?side1 ?side2 A57.out).mono ?_); (case side1 => repeat (first | exact (Kd.R_reads' HO_7.out).2.2 | (with_reducible refine Kd.C_alloc ?_ _) | (with_reducible refine Kd.C_drewN ?_ _) | (with_reducible refine Kd.C_drew ?_))); (case side2 => exact (Kd.R_reads' HO_7.out).2.1); rintro e w' ⟨rfl, ⟨nd, rfl⟩⟩; refine ⟨_, rfl, ?_⟩))
          go_ret
          exact ⟨by first | rfl | (simp [errW_none, errW_some] <;> rfl) | (simp [*, errW_none, errW_some] <;> rfl), by repeat (first | (with_reducible first | exact HB.out | apply below_alloc | apply pw_below_drewN | apply below_drew1) | exact HB.out)⟩
    ·rw [if_neg c10] at H
     exact absurd H (by simp)
   ·replace c8 := Bool.eq_false_iff.mpr c8
    subst c8
    have H1 : (transposallaw07_UnitChecks.l1 k a1 l0 0 l0 (l0.length : Int) 0) = some r := by rw [if_neg (show ¬ (false = true) by decide)] at H; exact H
    clear H
    have H := H1
    clear H1
    have H' := Aside0.mk H
    clear H
    go_enter Tryz.func9, Tryz.ntmps9
    go_wp2_with (first | ((with_reducible refine gate_callee (f := 21) rfl ?_); refine goesL_ (some 11) rfl rfl Tryz.func21 (by kernel_rfl) rfl #[] rfl (by (try simp only [List.map_toArray, List.map_cons, List.map_nil]); first | done | rfl | (simp only [List.length_drop, List.length_take]; rfl)) ?_; (with_reducible refine (transposallaw07_Awake.calls k  true _ ?side1 A4.out).mono ?_); (case side1 => exact Glob.below (by repeat (first | (with_reducible first | exact HB.out | apply below_alloc | apply pw_below_drewN | apply below_drew1) | exact HB.out)) HG.out); rintro e w61 ⟨rfl, hb⟩; refine ⟨_, rfl, ?_⟩; have n0_ := Aside0.mk (below_step (by repeat (first | (with_reducible first | exact HB.out | apply below_alloc | apply pw_below_drewN | apply below_drew1) | exact HB.out)) hb); clear HB; have HB := n0_; clear n0_; (try clear hb); (try clear hb2); (try clear hk); (try clear hi)))
    go_loopg [8, 25] k (fun kq v8 v25 w' => ∃ (x8_1 : Int) (x25_1 : Int), v8 = .int .i64 x8_1 ∧ v25 = .int .i64 x25_1 ∧ Aside0 (transposallaw07_UnitChecks.l1 kq a1 l0 x8_1 l0 (l0.length : Int) x25_1 = some r) ∧ Aside0 (kq ≤ k) ∧ Aside0 (Below w.heap.size w w'))
    case atStart => exact ⟨(0), (0), (by first | rfl | (simp; done) | (simp [*]; done)), (by first | rfl | (simp; done) | (simp [*]; done)), H', ⟨Nat.le_refl _⟩, ⟨by repeat (first | (with_reducible first | exact HB.out | apply below_alloc | apply pw_below_drewN | apply below_drew1) | exact HB.out)⟩⟩
    case round =>
     clear H'
     try clear c1
     try clear c2
     try clear p2
     try clear c3
     try clear c4
     try clear p4
     try clear q4
     try clear hx4
     try clear c5
     try clear c6
     try clear c6b0
     try clear c6b1
     try clear p6
     try clear c8
     try clear c9
     try clear c10
     try clear c15
     try clear c15b0
     try clear c16
     try clear c16b0
     try clear c17
     try clear c17b0
     try clear c18
     try clear c18b0
     try clear c19
     try clear c19b0
     try clear c19b1
     try clear c21
     try clear c21b0
     try clear c21b1
     try clear c23
     try clear c23b0
     try clear c25
     try clear c25b0
     try clear c25b1
     try clear c27
     try clear c27b0
     try clear c28
     try clear c28b0
     try clear c29
     try clear c29b0
     try clear c29b1
     try clear c31
     try clear c31b0
     try clear c31b1
     try clear c33
     try clear c33b0
     try clear c35
     try clear c35b0
     try clear c35b1
     try clear c37
     try clear c37b0
     try clear c38
     try clear c38b0
     try clear c40
     try clear c40b0
     try clear c41
     try clear c41b0
     try clear c42
     try clear c42b0
     try clear c43
     try clear c43b0
     try clear c43b1
     try clear c45
     try clear c45b0
     try clear c45b1
     try clear p46
     try clear q46
     try clear hx46
     try clear c47
     try clear c47b0
     try clear p47
     try clear q47
     try clear hx47
     try clear c49
     try clear c49b0
     try clear c49b1
     try clear c51
     try clear c51b0
     try clear c52
     try clear c52b0
     try clear c52b1
     try clear c54
     try clear c54b0
     try clear c54b1
     try clear c56
     try clear c56b0
     try clear c58
     try clear c58b0
     try clear c58b1
     try clear c60
     try clear c60b0
     try clear hx464_0
     try clear hx473_0
     try clear p2
     try clear p464
     try clear p473
     try clear q464
     try clear q473
     obtain ⟨x8_1, x25_1, rfl, rfl, HA, HK1, HB⟩ := hrel
     cases gk with
     | zero => exact absurd HA.out (by simp [transposallaw07_UnitChecks.l1])
     | succ k1 =>
      have H := HA.out
      clear HA
      simp only [transposallaw07_UnitChecks.l1] at H
      by_cases c62 : x25_1 < (l0.length : Int)
      ·rw [if_pos c62] at H
       have c62b0 : decide (x25_1 < (l0.length : Int)) = true := decide_eq_true c62
       clear c62
       by_cases c63 : 0 ≤ x25_1
       ·rw [if_pos c63] at H
        have c63b0 : decide (0 ≤ x25_1) = true := decide_eq_true c63
        clear c63
        by_cases c64 : x25_1 < (l0.length : Int)
        ·rw [if_pos c64] at H
         have c64b0 : decide (x25_1 < (l0.length : Int)) = true := decide_eq_true c64
         clear c64
         by_cases c65 : (rd l0 x25_1) < 1
         ·rw [if_pos c65] at H
          have c65b0 : decide ((rd l0 x25_1) < 1) = true := decide_eq_true c65
          clear c65
          by_cases c66 : (l0.length : Int) > 40
          ·rw [if_pos c66] at H
           have c66b0 : decide (40 < (l0.length : Int)) = true := decide_eq_true c66
           have c66b1 : decide (40 < l0.length) = true := decide_eq_true (by omega)
           clear c66
           replace H := Option.bind_eq_some_iff.mp H
           obtain ⟨t483, A670, H⟩ := H
           replace H : (if t483 = 2 then ((unit_Code.f a1).bind fun t484 => (if a1 ≥ 1 then (some (t484 == (decide (a1 ≤ 999)))) else (some (t484 == false)))) else (some false)) = some r := H
           have A67 := Aside0.mk A670
           clear A670
           by_cases c68 : t483 = 2
           ·rw [if_pos c68] at H
            have c68b0 : (t483 == 2) = true := beq_iff_eq.mpr c68
            have c68b1 : (t483 != 2) = false := bne_eq_false_iff_eq.mpr c68
            clear c68
            replace H := Option.bind_eq_some_iff.mp H
            obtain ⟨t484, A690, H⟩ := H
            replace H : (if a1 ≥ 1 then (some (t484 == (decide (a1 ≤ 999)))) else (some (t484 == false))) = some r := H
            have A69 := Aside0.mk A690
            clear A690
            by_cases c70 : a1 ≥ 1
            ·rw [if_pos c70] at H
             have c70b0 : decide (1 ≤ a1) = true := decide_eq_true c70
             clear c70
             obtain rfl := Option.some.inj H
             have p482 : 0 ≤ (x25_1 : Int) := of_decide_eq_true (by first | (with_reducible assumption) | assumption)
             have q482 : x25_1 < (l0.length : Int) := of_decide_eq_true (by first | (with_reducible assumption) | assumption)
             obtain ⟨ad482, e482, hx482_0⟩ := Kd.at_int HR0.out x25_1 p482 q482
             cases e482
             replace hx482_0 := (HB.out.cell (World.block_lt_of_cell? w _ hx482_0)).trans hx482_0
             replace p482 := eq_true p482
             replace q482 := eq_true q482
             go_wp2_with (first | ((with_reducible refine gate_callee (f := 23) rfl ?_); refine goesL_ (some 52) rfl rfl Tryz.func23 (by kernel_rfl) rfl #[.slice (some ad482) l0.length c0] rfl (by (try simp only [List.map_toArray, List.map_cons, List.map_nil]); first | done | rfl | (simp only [List.length_drop, List.length_take]; rfl)) ?_; (with_reducible refine (unit_Units_Check.calls k1 _ _ l0 t483 _ ?side1 ?side2 A67.out).mono ?_); (case side1 => repeat (first | exact (Kd.C_below HR0.out HB.out) | (with_reducible refine Kd.C_alloc ?_ _) | (with_reducible refine Kd.C_drewN ?_ _) | (with_reducible refine Kd.C_drew ?_))); (case side2 => exact HC0.out); rintro e w' ⟨rfl, ⟨nd, rfl⟩⟩; refine ⟨_, rfl, ?_⟩) | (go_at_call 26; (with_reducible refine (unit_Code.calls a1 t484 _ A69.out).mono ?_); rintro e w' ⟨rfl, ⟨nd, rfl⟩⟩))
             go_ret
             exact ⟨by first | rfl | (simp [errW_none, errW_some] <;> rfl) | (simp [*, errW_none, errW_some] <;> rfl), by repeat (first | (with_reducible first | exact HB.out | apply below_alloc | apply pw_below_drewN | apply below_drew1) | exact HB.out)⟩
            ·rw [if_neg c70] at H
             have c70b0 : decide (1 ≤ a1) = false := decide_eq_false c70
             clear c70
             obtain rfl := Option.some.inj H
             have p482 : 0 ≤ (x25_1 : Int) := of_decide_eq_true (by first | (with_reducible assumption) | assumption)
             have q482 : x25_1 < (l0.length : Int) := of_decide_eq_true (by first | (with_reducible assumption) | assumption)
             obtain ⟨ad482, e482, hx482_0⟩ := Kd.at_int HR0.out x25_1 p482 q482
             cases e482
             replace hx482_0 := (HB.out.cell (World.block_lt_of_cell? w _ hx482_0)).trans hx482_0
             replace p482 := eq_true p482
             replace q482 := eq_true q482
             go_wp2_with (first | ((with_reducible refine gate_callee (f := 23) rfl ?_); refine goesL_ (some 52) rfl rfl Tryz.func23 (by kernel_rfl) rfl #[.slice (some ad482) l0.length c0] rfl (by (try simp only [List.map_toArray, List.map_cons, List.map_nil]); first | done | rfl | (simp only [List.length_drop, List.length_take]; rfl)) ?_; (with_reducible refine (unit_Units_Check.calls k1 _ _ l0 t483 _ ?side1 ?side2 A67.out).mono ?_); (case side1 => repeat (first | exact (Kd.C_below HR0.out HB.out) | (with_reducible refine Kd.C_alloc ?_ _) | (with_reducible refine Kd.C_drewN ?_ _) | (with_reducible refine Kd.C_drew ?_))); (case side2 => exact HC0.out); rintro e w' ⟨rfl, ⟨nd, rfl⟩⟩; refine ⟨_, rfl, ?_⟩) | (go_at_call 26; (with_reducible refine (unit_Code.calls a1 t484 _ A69.out).mono ?_); rintro e w' ⟨rfl, ⟨nd, rfl⟩⟩))
             go_ret
             exact ⟨by first | rfl | (simp [errW_none, errW_some] <;> rfl) | (simp [*, errW_none, errW_some] <;> rfl), by repeat (first | (with_reducible first | exact HB.out | apply below_alloc | apply pw_below_drewN | apply below_drew1) | exact HB.out)⟩
           ·rw [if_neg c68] at H
            have c68b0 : (t483 == 2) = false := beq_eq_false_iff_ne.mpr c68
            have c68b1 : (t483 != 2) = true := bne_iff_ne.mpr c68
            obtain rfl := Option.some.inj H
            have p482 : 0 ≤ (x25_1 : Int) := of_decide_eq_true (by first | (with_reducible assumption) | assumption)
            have q482 : x25_1 < (l0.length : Int) := of_decide_eq_true (by first | (with_reducible assumption) | assumption)
            obtain ⟨ad482, e482, hx482_0⟩ := Kd.at_int HR0.out x25_1 p482 q482
            cases e482
            replace hx482_0 := (HB.out.cell (World.block_lt_of_cell? w _ hx482_0)).trans hx482_0
            replace p482 := eq_true p482
            replace q482 := eq_true q482
            go_wp2_with (first | ((with_reducible refine gate_callee (f := 23) rfl ?_); refine goesL_ (some 52) rfl rfl Tryz.func23 (by kernel_rfl) rfl #[.slice (some ad482) l0.length c0] rfl (by (try simp only [List.map_toArray, List.map_cons, List.map_nil]); first | done | rfl | (simp only [List.length_drop, List.length_take]; rfl)) ?_; (with_reducible refine (unit_Units_Check.calls k1 _ _ l0 t483 _ ?side1 ?side2 A67.out).mono ?_); (case side1 => repeat (first | exact (Kd.C_below HR0.out HB.out) | (with_reducible refine Kd.C_alloc ?_ _) | (with_reducible refine Kd.C_drewN ?_ _) | (with_reducible refine Kd.C_drew ?_))); (case side2 => exact HC0.out); rintro e w' ⟨rfl, ⟨nd, rfl⟩⟩; refine ⟨_, rfl, ?_⟩))
            go_ret
            exact ⟨by first | rfl | (simp [errW_none, errW_some] <;> rfl) | (simp [*, errW_none, errW_some] <;> rfl), by repeat (first | (with_reducible first | exact HB.out | apply below_alloc | apply pw_below_drewN | apply below_drew1) | exact HB.out)⟩
          ·rw [if_neg c66] at H
           have c66b0 : decide (40 < (l0.length : Int)) = false := decide_eq_false c66
           have c66b1 : decide (40 < l0.length) = false := decide_eq_false (by omega)
           clear c66
           replace H := Option.bind_eq_some_iff.mp H
           obtain ⟨t485, A710, H⟩ := H
           replace H : (if t485 = 5 then ((unit_Code.f a1).bind fun t486 => (if a1 ≥ 1 then (some (t486 == (decide (a1 ≤ 999)))) else (some (t486 == false)))) else (some false)) = some r := H
           have A71 := Aside0.mk A710
           clear A710
           by_cases c72 : t485 = 5
           ·rw [if_pos c72] at H
            have c72b0 : (t485 == 5) = true := beq_iff_eq.mpr c72
            have c72b1 : (t485 != 5) = false := bne_eq_false_iff_eq.mpr c72
            clear c72
            replace H := Option.bind_eq_some_iff.mp H
            obtain ⟨t486, A730, H⟩ := H
            replace H : (if a1 ≥ 1 then (some (t486 == (decide (a1 ≤ 999)))) else (some (t486 == false))) = some r := H
            have A73 := Aside0.mk A730
            clear A730
            by_cases c74 : a1 ≥ 1
            ·rw [if_pos c74] at H
             have c74b0 : decide (1 ≤ a1) = true := decide_eq_true c74
             clear c74
             obtain rfl := Option.some.inj H
             have p482 : 0 ≤ (x25_1 : Int) := of_decide_eq_true (by first | (with_reducible assumption) | assumption)
             have q482 : x25_1 < (l0.length : Int) := of_decide_eq_true (by first | (with_reducible assumption) | assumption)
             obtain ⟨ad482, e482, hx482_0⟩ := Kd.at_int HR0.out x25_1 p482 q482
             cases e482
             replace hx482_0 := (HB.out.cell (World.block_lt_of_cell? w _ hx482_0)).trans hx482_0
             replace p482 := eq_true p482
             replace q482 := eq_true q482
             go_wp2_with (first | ((with_reducible refine gate_callee (f := 23) rfl ?_); refine goesL_ (some 52) rfl rfl Tryz.func23 (by kernel_rfl) rfl #[.slice (some ad482) l0.length c0] rfl (by (try simp only [List.map_toArray, List.map_cons, List.map_nil]); first | done | rfl | (simp only [List.length_drop, List.length_take]; rfl)) ?_; (with_reducible refine (unit_Units_Check.calls k1 _ _ l0 t485 _ ?side1 ?side2 A71.out).mono ?_); (case side1 => repeat (first | exact (Kd.C_below HR0.out HB.out) | (with_reducible refine Kd.C_alloc ?_ _) | (with_reducible refine Kd.C_drewN ?_ _) | (with_reducible refine Kd.C_drew ?_))); (case side2 => exact HC0.out); rintro e w' ⟨rfl, ⟨nd, rfl⟩⟩; refine ⟨_, rfl, ?_⟩) | (go_at_call 26; (with_reducible refine (unit_Code.calls a1 t486 _ A73.out).mono ?_); rintro e w' ⟨rfl, ⟨nd, rfl⟩⟩))
             go_ret
             exact ⟨by first | rfl | (simp [errW_none, errW_some] <;> rfl) | (simp [*, errW_none, errW_some] <;> rfl), by repeat (first | (with_reducible first | exact HB.out | apply below_alloc | apply pw_below_drewN | apply below_drew1) | exact HB.out)⟩
            ·rw [if_neg c74] at H
             have c74b0 : decide (1 ≤ a1) = false := decide_eq_false c74
             clear c74
             obtain rfl := Option.some.inj H
             have p482 : 0 ≤ (x25_1 : Int) := of_decide_eq_true (by first | (with_reducible assumption) | assumption)
             have q482 : x25_1 < (l0.length : Int) := of_decide_eq_true (by first | (with_reducible assumption) | assumption)
             obtain ⟨ad482, e482, hx482_0⟩ := Kd.at_int HR0.out x25_1 p482 q482
             cases e482
             replace hx482_0 := (HB.out.cell (World.block_lt_of_cell? w _ hx482_0)).trans hx482_0
             replace p482 := eq_true p482
             replace q482 := eq_true q482
             go_wp2_with (first | ((with_reducible refine gate_callee (f := 23) rfl ?_); refine goesL_ (some 52) rfl rfl Tryz.func23 (by kernel_rfl) rfl #[.slice (some ad482) l0.length c0] rfl (by (try simp only [List.map_toArray, List.map_cons, List.map_nil]); first | done | rfl | (simp only [List.length_drop, List.length_take]; rfl)) ?_; (with_reducible refine (unit_Units_Check.calls k1 _ _ l0 t485 _ ?side1 ?side2 A71.out).mono ?_); (case side1 => repeat (first | exact (Kd.C_below HR0.out HB.out) | (with_reducible refine Kd.C_alloc ?_ _) | (with_reducible refine Kd.C_drewN ?_ _) | (with_reducible refine Kd.C_drew ?_))); (case side2 => exact HC0.out); rintro e w' ⟨rfl, ⟨nd, rfl⟩⟩; refine ⟨_, rfl, ?_⟩) | (go_at_call 26; (with_reducible refine (unit_Code.calls a1 t486 _ A73.out).mono ?_); rintro e w' ⟨rfl, ⟨nd, rfl⟩⟩))
             go_ret
             exact ⟨by first | rfl | (simp [errW_none, errW_some] <;> rfl) | (simp [*, errW_none, errW_some] <;> rfl), by repeat (first | (with_reducible first | exact HB.out | apply below_alloc | apply pw_below_drewN | apply below_drew1) | exact HB.out)⟩
           ·rw [if_neg c72] at H
            have c72b0 : (t485 == 5) = false := beq_eq_false_iff_ne.mpr c72
            have c72b1 : (t485 != 5) = true := bne_iff_ne.mpr c72
            obtain rfl := Option.some.inj H
            have p482 : 0 ≤ (x25_1 : Int) := of_decide_eq_true (by first | (with_reducible assumption) | assumption)
            have q482 : x25_1 < (l0.length : Int) := of_decide_eq_true (by first | (with_reducible assumption) | assumption)
            obtain ⟨ad482, e482, hx482_0⟩ := Kd.at_int HR0.out x25_1 p482 q482
            cases e482
            replace hx482_0 := (HB.out.cell (World.block_lt_of_cell? w _ hx482_0)).trans hx482_0
            replace p482 := eq_true p482
            replace q482 := eq_true q482
            go_wp2_with (first | ((with_reducible refine gate_callee (f := 23) rfl ?_); refine goesL_ (some 52) rfl rfl Tryz.func23 (by kernel_rfl) rfl #[.slice (some ad482) l0.length c0] rfl (by (try simp only [List.map_toArray, List.map_cons, List.map_nil]); first | done | rfl | (simp only [List.length_drop, List.length_take]; rfl)) ?_; (with_reducible refine (unit_Units_Check.calls k1 _ _ l0 t485 _ ?side1 ?side2 A71.out).mono ?_); (case side1 => repeat (first | exact (Kd.C_below HR0.out HB.out) | (with_reducible refine Kd.C_alloc ?_ _) | (with_reducible refine Kd.C_drewN ?_ _) | (with_reducible refine Kd.C_drew ?_))); (case side2 => exact HC0.out); rintro e w' ⟨rfl, ⟨nd, rfl⟩⟩; refine ⟨_, rfl, ?_⟩))
            go_ret
            exact ⟨by first | rfl | (simp [errW_none, errW_some] <;> rfl) | (simp [*, errW_none, errW_some] <;> rfl), by repeat (first | (with_reducible first | exact HB.out | apply below_alloc | apply pw_below_drewN | apply below_drew1) | exact HB.out)⟩
         ·rw [if_neg c65] at H
          have c65b0 : decide ((rd l0 x25_1) < 1) = false := decide_eq_false c65
          clear c65
          by_cases c75 : (rd l0 x25_1) > 999
          ·rw [if_pos c75] at H
           have c75b0 : decide (999 < (rd l0 x25_1)) = true := decide_eq_true c75
           clear c75
           by_cases c76 : (l0.length : Int) > 40
           ·rw [if_pos c76] at H
            have c76b0 : decide (40 < (l0.length : Int)) = true := decide_eq_true c76
            have c76b1 : decide (40 < l0.length) = true := decide_eq_true (by omega)
            clear c76
            replace H := Option.bind_eq_some_iff.mp H
            obtain ⟨t487, A770, H⟩ := H
            replace H : (if t487 = 2 then ((unit_Code.f a1).bind fun t488 => (if a1 ≥ 1 then (some (t488 == (decide (a1 ≤ 999)))) else (some (t488 == false)))) else (some false)) = some r := H
            have A77 := Aside0.mk A770
            clear A770
            by_cases c78 : t487 = 2
            ·rw [if_pos c78] at H
             have c78b0 : (t487 == 2) = true := beq_iff_eq.mpr c78
             have c78b1 : (t487 != 2) = false := bne_eq_false_iff_eq.mpr c78
             clear c78
             replace H := Option.bind_eq_some_iff.mp H
             obtain ⟨t488, A790, H⟩ := H
             replace H : (if a1 ≥ 1 then (some (t488 == (decide (a1 ≤ 999)))) else (some (t488 == false))) = some r := H
             have A79 := Aside0.mk A790
             clear A790
             by_cases c80 : a1 ≥ 1
             ·rw [if_pos c80] at H
              have c80b0 : decide (1 ≤ a1) = true := decide_eq_true c80
              clear c80
              obtain rfl := Option.some.inj H
              have p482 : 0 ≤ (x25_1 : Int) := of_decide_eq_true (by first | (with_reducible assumption) | assumption)
              have q482 : x25_1 < (l0.length : Int) := of_decide_eq_true (by first | (with_reducible assumption) | assumption)
              obtain ⟨ad482, e482, hx482_0⟩ := Kd.at_int HR0.out x25_1 p482 q482
              cases e482
              replace hx482_0 := (HB.out.cell (World.block_lt_of_cell? w _ hx482_0)).trans hx482_0
              replace p482 := eq_true p482
              replace q482 := eq_true q482
              go_wp2_with (first | ((with_reducible refine gate_callee (f := 23) rfl ?_); refine goesL_ (some 52) rfl rfl Tryz.func23 (by kernel_rfl) rfl #[.slice (some ad482) l0.length c0] rfl (by (try simp only [List.map_toArray, List.map_cons, List.map_nil]); first | done | rfl | (simp only [List.length_drop, List.length_take]; rfl)) ?_; (with_reducible refine (unit_Units_Check.calls k1 _ _ l0 t487 _ ?side1 ?side2 A77.out).mono ?_); (case side1 => repeat (first | exact (Kd.C_below HR0.out HB.out) | (with_reducible refine Kd.C_alloc ?_ _) | (with_reducible refine Kd.C_drewN ?_ _) | (with_reducible refine Kd.C_drew ?_))); (case side2 => exact HC0.out); rintro e w' ⟨rfl, ⟨nd, rfl⟩⟩; refine ⟨_, rfl, ?_⟩) | (go_at_call 26; (with_reducible refine (unit_Code.calls a1 t488 _ A79.out).mono ?_); rintro e w' ⟨rfl, ⟨nd, rfl⟩⟩))
              go_ret
              exact ⟨by first | rfl | (simp [errW_none, errW_some] <;> rfl) | (simp [*, errW_none, errW_some] <;> rfl), by repeat (first | (with_reducible first | exact HB.out | apply below_alloc | apply pw_below_drewN | apply below_drew1) | exact HB.out)⟩
             ·rw [if_neg c80] at H
              have c80b0 : decide (1 ≤ a1) = false := decide_eq_false c80
              clear c80
              obtain rfl := Option.some.inj H
              have p482 : 0 ≤ (x25_1 : Int) := of_decide_eq_true (by first | (with_reducible assumption) | assumption)
              have q482 : x25_1 < (l0.length : Int) := of_decide_eq_true (by first | (with_reducible assumption) | assumption)
              obtain ⟨ad482, e482, hx482_0⟩ := Kd.at_int HR0.out x25_1 p482 q482
              cases e482
              replace hx482_0 := (HB.out.cell (World.block_lt_of_cell? w _ hx482_0)).trans hx482_0
              replace p482 := eq_true p482
              replace q482 := eq_true q482
              go_wp2_with (first | ((with_reducible refine gate_callee (f := 23) rfl ?_); refine goesL_ (some 52) rfl rfl Tryz.func23 (by kernel_rfl) rfl #[.slice (some ad482) l0.length c0] rfl (by (try simp only [List.map_toArray, List.map_cons, List.map_nil]); first | done | rfl | (simp only [List.length_drop, List.length_take]; rfl)) ?_; (with_reducible refine (unit_Units_Check.calls k1 _ _ l0 t487 _ ?side1 ?side2 A77.out).mono ?_); (case side1 => repeat (first | exact (Kd.C_below HR0.out HB.out) | (with_reducible refine Kd.C_alloc ?_ _) | (with_reducible refine Kd.C_drewN ?_ _) | (with_reducible refine Kd.C_drew ?_))); (case side2 => exact HC0.out); rintro e w' ⟨rfl, ⟨nd, rfl⟩⟩; refine ⟨_, rfl, ?_⟩) | (go_at_call 26; (with_reducible refine (unit_Code.calls a1 t488 _ A79.out).mono ?_); rintro e w' ⟨rfl, ⟨nd, rfl⟩⟩))
              go_ret
              exact ⟨by first | rfl | (simp [errW_none, errW_some] <;> rfl) | (simp [*, errW_none, errW_some] <;> rfl), by repeat (first | (with_reducible first | exact HB.out | apply below_alloc | apply pw_below_drewN | apply below_drew1) | exact HB.out)⟩
            ·rw [if_neg c78] at H
             have c78b0 : (t487 == 2) = false := beq_eq_false_iff_ne.mpr c78
             have c78b1 : (t487 != 2) = true := bne_iff_ne.mpr c78
             obtain rfl := Option.some.inj H
             have p482 : 0 ≤ (x25_1 : Int) := of_decide_eq_true (by first | (with_reducible assumption) | assumption)
             have q482 : x25_1 < (l0.length : Int) := of_decide_eq_true (by first | (with_reducible assumption) | assumption)
             obtain ⟨ad482, e482, hx482_0⟩ := Kd.at_int HR0.out x25_1 p482 q482
             cases e482
             replace hx482_0 := (HB.out.cell (World.block_lt_of_cell? w _ hx482_0)).trans hx482_0
             replace p482 := eq_true p482
             replace q482 := eq_true q482
             go_wp2_with (first | ((with_reducible refine gate_callee (f := 23) rfl ?_); refine goesL_ (some 52) rfl rfl Tryz.func23 (by kernel_rfl) rfl #[.slice (some ad482) l0.length c0] rfl (by (try simp only [List.map_toArray, List.map_cons, List.map_nil]); first | done | rfl | (simp only [List.length_drop, List.length_take]; rfl)) ?_; (with_reducible refine (unit_Units_Check.calls k1 _ _ l0 t487 _ ?side1 ?side2 A77.out).mono ?_); (case side1 => repeat (first | exact (Kd.C_below HR0.out HB.out) | (with_reducible refine Kd.C_alloc ?_ _) | (with_reducible refine Kd.C_drewN ?_ _) | (with_reducible refine Kd.C_drew ?_))); (case side2 => exact HC0.out); rintro e w' ⟨rfl, ⟨nd, rfl⟩⟩; refine ⟨_, rfl, ?_⟩))
             go_ret
             exact ⟨by first | rfl | (simp [errW_none, errW_some] <;> rfl) | (simp [*, errW_none, errW_some] <;> rfl), by repeat (first | (with_reducible first | exact HB.out | apply below_alloc | apply pw_below_drewN | apply below_drew1) | exact HB.out)⟩
           ·rw [if_neg c76] at H
            have c76b0 : decide (40 < (l0.length : Int)) = false := decide_eq_false c76
            have c76b1 : decide (40 < l0.length) = false := decide_eq_false (by omega)
            clear c76
            replace H := Option.bind_eq_some_iff.mp H
            obtain ⟨t489, A810, H⟩ := H
            replace H : (if t489 = 5 then ((unit_Code.f a1).bind fun t490 => (if a1 ≥ 1 then (some (t490 == (decide (a1 ≤ 999)))) else (some (t490 == false)))) else (some false)) = some r := H
            have A81 := Aside0.mk A810
            clear A810
            by_cases c82 : t489 = 5
            ·rw [if_pos c82] at H
             have c82b0 : (t489 == 5) = true := beq_iff_eq.mpr c82
             have c82b1 : (t489 != 5) = false := bne_eq_false_iff_eq.mpr c82
             clear c82
             replace H := Option.bind_eq_some_iff.mp H
             obtain ⟨t490, A830, H⟩ := H
             replace H : (if a1 ≥ 1 then (some (t490 == (decide (a1 ≤ 999)))) else (some (t490 == false))) = some r := H
             have A83 := Aside0.mk A830
             clear A830
             by_cases c84 : a1 ≥ 1
             ·rw [if_pos c84] at H
              have c84b0 : decide (1 ≤ a1) = true := decide_eq_true c84
              clear c84
              obtain rfl := Option.some.inj H
              have p482 : 0 ≤ (x25_1 : Int) := of_decide_eq_true (by first | (with_reducible assumption) | assumption)
              have q482 : x25_1 < (l0.length : Int) := of_decide_eq_true (by first | (with_reducible assumption) | assumption)
              obtain ⟨ad482, e482, hx482_0⟩ := Kd.at_int HR0.out x25_1 p482 q482
              cases e482
              replace hx482_0 := (HB.out.cell (World.block_lt_of_cell? w _ hx482_0)).trans hx482_0
              replace p482 := eq_true p482
              replace q482 := eq_true q482
              go_wp2_with (first | ((with_reducible refine gate_callee (f := 23) rfl ?_); refine goesL_ (some 52) rfl rfl Tryz.func23 (by kernel_rfl) rfl #[.slice (some ad482) l0.length c0] rfl (by (try simp only [List.map_toArray, List.map_cons, List.map_nil]); first | done | rfl | (simp only [List.length_drop, List.length_take]; rfl)) ?_; (with_reducible refine (unit_Units_Check.calls k1 _ _ l0 t489 _ ?side1 ?side2 A81.out).mono ?_); (case side1 => repeat (first | exact (Kd.C_below HR0.out HB.out) | (with_reducible refine Kd.C_alloc ?_ _) | (with_reducible refine Kd.C_drewN ?_ _) | (with_reducible refine Kd.C_drew ?_))); (case side2 => exact HC0.out); rintro e w' ⟨rfl, ⟨nd, rfl⟩⟩; refine ⟨_, rfl, ?_⟩) | (go_at_call 26; (with_reducible refine (unit_Code.calls a1 t490 _ A83.out).mono ?_); rintro e w' ⟨rfl, ⟨nd, rfl⟩⟩))
              go_ret
              exact ⟨by first | rfl | (simp [errW_none, errW_some] <;> rfl) | (simp [*, errW_none, errW_some] <;> rfl), by repeat (first | (with_reducible first | exact HB.out | apply below_alloc | apply pw_below_drewN | apply below_drew1) | exact HB.out)⟩
             ·rw [if_neg c84] at H
              have c84b0 : decide (1 ≤ a1) = false := decide_eq_false c84
              clear c84
              obtain rfl := Option.some.inj H
              have p482 : 0 ≤ (x25_1 : Int) := of_decide_eq_true (by first | (with_reducible assumption) | assumption)
              have q482 : x25_1 < (l0.length : Int) := of_decide_eq_true (by first | (with_reducible assumption) | assumption)
              obtain ⟨ad482, e482, hx482_0⟩ := Kd.at_int HR0.out x25_1 p482 q482
              cases e482
              replace hx482_0 := (HB.out.cell (World.block_lt_of_cell? w _ hx482_0)).trans hx482_0
              replace p482 := eq_true p482
              replace q482 := eq_true q482
              go_wp2_with (first | ((with_reducible refine gate_callee (f := 23) rfl ?_); refine goesL_ (some 52) rfl rfl Tryz.func23 (by kernel_rfl) rfl #[.slice (some ad482) l0.length c0] rfl (by (try simp only [List.map_toArray, List.map_cons, List.map_nil]); first | done | rfl | (simp only [List.length_drop, List.length_take]; rfl)) ?_; (with_reducible refine (unit_Units_Check.calls k1 _ _ l0 t489 _ ?side1 ?side2 A81.out).mono ?_); (case side1 => repeat (first | exact (Kd.C_below HR0.out HB.out) | (with_reducible refine Kd.C_alloc ?_ _) | (with_reducible refine Kd.C_drewN ?_ _) | (with_reducible refine Kd.C_drew ?_))); (case side2 => exact HC0.out); rintro e w' ⟨rfl, ⟨nd, rfl⟩⟩; refine ⟨_, rfl, ?_⟩) | (go_at_call 26; (with_reducible refine (unit_Code.calls a1 t490 _ A83.out).mono ?_); rintro e w' ⟨rfl, ⟨nd, rfl⟩⟩))
              go_ret
              exact ⟨by first | rfl | (simp [errW_none, errW_some] <;> rfl) | (simp [*, errW_none, errW_some] <;> rfl), by repeat (first | (with_reducible first | exact HB.out | apply below_alloc | apply pw_below_drewN | apply below_drew1) | exact HB.out)⟩
            ·rw [if_neg c82] at H
             have c82b0 : (t489 == 5) = false := beq_eq_false_iff_ne.mpr c82
             have c82b1 : (t489 != 5) = true := bne_iff_ne.mpr c82
             obtain rfl := Option.some.inj H
             have p482 : 0 ≤ (x25_1 : Int) := of_decide_eq_true (by first | (with_reducible assumption) | assumption)
             have q482 : x25_1 < (l0.length : Int) := of_decide_eq_true (by first | (with_reducible assumption) | assumption)
             obtain ⟨ad482, e482, hx482_0⟩ := Kd.at_int HR0.out x25_1 p482 q482
             cases e482
             replace hx482_0 := (HB.out.cell (World.block_lt_of_cell? w _ hx482_0)).trans hx482_0
             replace p482 := eq_true p482
             replace q482 := eq_true q482
             go_wp2_with (first | ((with_reducible refine gate_callee (f := 23) rfl ?_); refine goesL_ (some 52) rfl rfl Tryz.func23 (by kernel_rfl) rfl #[.slice (some ad482) l0.length c0] rfl (by (try simp only [List.map_toArray, List.map_cons, List.map_nil]); first | done | rfl | (simp only [List.length_drop, List.length_take]; rfl)) ?_; (with_reducible refine (unit_Units_Check.calls k1 _ _ l0 t489 _ ?side1 ?side2 A81.out).mono ?_); (case side1 => repeat (first | exact (Kd.C_below HR0.out HB.out) | (with_reducible refine Kd.C_alloc ?_ _) | (with_reducible refine Kd.C_drewN ?_ _) | (with_reducible refine Kd.C_drew ?_))); (case side2 => exact HC0.out); rintro e w' ⟨rfl, ⟨nd, rfl⟩⟩; refine ⟨_, rfl, ?_⟩))
             go_ret
             exact ⟨by first | rfl | (simp [errW_none, errW_some] <;> rfl) | (simp [*, errW_none, errW_some] <;> rfl), by repeat (first | (with_reducible first | exact HB.out | apply below_alloc | apply pw_below_drewN | apply below_drew1) | exact HB.out)⟩
          ·rw [if_neg c75] at H
           have c75b0 : decide (999 < (rd l0 x25_1)) = false := decide_eq_false c75
           clear c75
           by_cases c85 : x25_1 > 0
           ·rw [if_pos c85] at H
            have c85b0 : decide (0 < x25_1) = true := decide_eq_true c85
            clear c85
            obtain ⟨ji86, hji86⟩ : ∃ j_ : Int, (wrap64 (x25_1 - 1)) = j_ := ⟨_, rfl⟩
            replace H : (if 0 ≤ (ji86) then (if (ji86) < (l0.length : Int) then (if (rd l0 (ji86)) ≥ (rd l0 x25_1) then (if (l0.length : Int) > 40 then ((unit_Units_Check.f k1 l0).bind fun t492 => (if t492 = 2 then ((unit_Code.f a1).bind fun t493 => (if a1 ≥ 1 then (some (t493 == (decide (a1 ≤ 999)))) else (some (t493 == false)))) else (some false))) else ((unit_Units_Check.f k1 l0).bind fun t494 => (if t494 = 6 then ((unit_Code.f a1).bind fun t495 => (if a1 ≥ 1 then (some (t495 == (decide (a1 ≤ 999)))) else (some (t495 == false)))) else (some false)))) else (transposallaw07_UnitChecks.l1 k1 a1 l0 x8_1 l0 (l0.length : Int) (wrap64 (x25_1 + 1)))) else (none)) else (none)) = some r := by first | (rw [hji86] at H; exact H) | (simp only [hji86] at H ⊢; exact H)
            have hji86w : (IntKind.i64.wrap (x25_1 - 1)) = ji86 := (i64_w _).trans hji86
            by_cases c87 : 0 ≤ (ji86)
            ·rw [if_pos c87] at H
             have c87b0 : decide (0 ≤ (ji86)) = true := decide_eq_true c87
             clear c87
             by_cases c88 : (ji86) < (l0.length : Int)
             ·rw [if_pos c88] at H
              have c88b0 : decide ((ji86) < (l0.length : Int)) = true := decide_eq_true c88
              clear c88
              by_cases c89 : (rd l0 (ji86)) ≥ (rd l0 x25_1)
              ·rw [if_pos c89] at H
               have c89b0 : decide ((rd l0 x25_1) ≤ (rd l0 (ji86))) = true := decide_eq_true c89
               clear c89
               by_cases c90 : (l0.length : Int) > 40
               ·rw [if_pos c90] at H
                have c90b0 : decide (40 < (l0.length : Int)) = true := decide_eq_true c90
                have c90b1 : decide (40 < l0.length) = true := decide_eq_true (by omega)
                clear c90
                replace H := Option.bind_eq_some_iff.mp H
                obtain ⟨t492, A910, H⟩ := H
                replace H : (if t492 = 2 then ((unit_Code.f a1).bind fun t493 => (if a1 ≥ 1 then (some (t493 == (decide (a1 ≤ 999)))) else (some (t493 == false)))) else (some false)) = some r := H
                have A91 := Aside0.mk A910
                clear A910
                by_cases c92 : t492 = 2
                ·rw [if_pos c92] at H
                 have c92b0 : (t492 == 2) = true := beq_iff_eq.mpr c92
                 have c92b1 : (t492 != 2) = false := bne_eq_false_iff_eq.mpr c92
                 clear c92
                 replace H := Option.bind_eq_some_iff.mp H
                 obtain ⟨t493, A930, H⟩ := H
                 replace H : (if a1 ≥ 1 then (some (t493 == (decide (a1 ≤ 999)))) else (some (t493 == false))) = some r := H
                 have A93 := Aside0.mk A930
                 clear A930
                 by_cases c94 : a1 ≥ 1
                 ·rw [if_pos c94] at H
                  have c94b0 : decide (1 ≤ a1) = true := decide_eq_true c94
                  clear c94
                  obtain rfl := Option.some.inj H
                  have p482 : 0 ≤ (x25_1 : Int) := of_decide_eq_true (by first | (with_reducible assumption) | assumption)
                  have q482 : x25_1 < (l0.length : Int) := of_decide_eq_true (by first | (with_reducible assumption) | assumption)
                  obtain ⟨ad482, e482, hx482_0⟩ := Kd.at_int HR0.out x25_1 p482 q482
                  cases e482
                  replace hx482_0 := (HB.out.cell (World.block_lt_of_cell? w _ hx482_0)).trans hx482_0
                  replace p482 := eq_true p482
                  replace q482 := eq_true q482
                  have p491 : 0 ≤ ((ji86) : Int) := of_decide_eq_true (by first | (with_reducible assumption) | assumption)
                  have q491 : (ji86) < (l0.length : Int) := of_decide_eq_true (by first | (with_reducible assumption) | assumption)
                  obtain ⟨ad491, e491, hx491_0⟩ := Kd.at_int HR0.out (ji86) p491 q491
                  obtain rfl : ad482 = ad491 := (by injection e491)
                  replace hx491_0 := (HB.out.cell (World.block_lt_of_cell? w _ hx491_0)).trans hx491_0
                  replace p491 := eq_true p491
                  replace q491 := eq_true q491
                  go_wp2_with (first | ((with_reducible refine gate_callee (f := 23) rfl ?_); refine goesL_ (some 52) rfl rfl Tryz.func23 (by kernel_rfl) rfl #[.slice (some ad482) l0.length c0] rfl (by (try simp only [List.map_toArray, List.map_cons, List.map_nil]); first | done | rfl | (simp only [List.length_drop, List.length_take]; rfl)) ?_; (with_reducible refine (unit_Units_Check.calls k1 _ _ l0 t492 _ ?side1 ?side2 A91.out).mono ?_); (case side1 => repeat (first | exact (Kd.C_below HR0.out HB.out) | (with_reducible refine Kd.C_alloc ?_ _) | (with_reducible refine Kd.C_drewN ?_ _) | (with_reducible refine Kd.C_drew ?_))); (case side2 => exact HC0.out); rintro e w' ⟨rfl, ⟨nd, rfl⟩⟩; refine ⟨_, rfl, ?_⟩) | (go_at_call 26; (with_reducible refine (unit_Code.calls a1 t493 _ A93.out).mono ?_); rintro e w' ⟨rfl, ⟨nd, rfl⟩⟩))
                  go_ret
                  exact ⟨by first | rfl | (simp [errW_none, errW_some] <;> rfl) | (simp only [← hji86]; first | rfl | (simp [errW_none, errW_some] <;> rfl)) | (simp [*, errW_none, errW_some] <;> rfl), by repeat (first | (with_reducible first | exact HB.out | apply below_alloc | apply pw_below_drewN | apply below_drew1) | exact HB.out)⟩
                 ·rw [if_neg c94] at H
                  have c94b0 : decide (1 ≤ a1) = false := decide_eq_false c94
                  clear c94
                  obtain rfl := Option.some.inj H
                  have p482 : 0 ≤ (x25_1 : Int) := of_decide_eq_true (by first | (with_reducible assumption) | assumption)
                  have q482 : x25_1 < (l0.length : Int) := of_decide_eq_true (by first | (with_reducible assumption) | assumption)
                  obtain ⟨ad482, e482, hx482_0⟩ := Kd.at_int HR0.out x25_1 p482 q482
                  cases e482
                  replace hx482_0 := (HB.out.cell (World.block_lt_of_cell? w _ hx482_0)).trans hx482_0
                  replace p482 := eq_true p482
                  replace q482 := eq_true q482
                  have p491 : 0 ≤ ((ji86) : Int) := of_decide_eq_true (by first | (with_reducible assumption) | assumption)
                  have q491 : (ji86) < (l0.length : Int) := of_decide_eq_true (by first | (with_reducible assumption) | assumption)
                  obtain ⟨ad491, e491, hx491_0⟩ := Kd.at_int HR0.out (ji86) p491 q491
                  obtain rfl : ad482 = ad491 := (by injection e491)
                  replace hx491_0 := (HB.out.cell (World.block_lt_of_cell? w _ hx491_0)).trans hx491_0
                  replace p491 := eq_true p491
                  replace q491 := eq_true q491
                  go_wp2_with (first | ((with_reducible refine gate_callee (f := 23) rfl ?_); refine goesL_ (some 52) rfl rfl Tryz.func23 (by kernel_rfl) rfl #[.slice (some ad482) l0.length c0] rfl (by (try simp only [List.map_toArray, List.map_cons, List.map_nil]); first | done | rfl | (simp only [List.length_drop, List.length_take]; rfl)) ?_; (with_reducible refine (unit_Units_Check.calls k1 _ _ l0 t492 _ ?side1 ?side2 A91.out).mono ?_); (case side1 => repeat (first | exact (Kd.C_below HR0.out HB.out) | (with_reducible refine Kd.C_alloc ?_ _) | (with_reducible refine Kd.C_drewN ?_ _) | (with_reducible refine Kd.C_drew ?_))); (case side2 => exact HC0.out); rintro e w' ⟨rfl, ⟨nd, rfl⟩⟩; refine ⟨_, rfl, ?_⟩) | (go_at_call 26; (with_reducible refine (unit_Code.calls a1 t493 _ A93.out).mono ?_); rintro e w' ⟨rfl, ⟨nd, rfl⟩⟩))
                  go_ret
                  exact ⟨by first | rfl | (simp [errW_none, errW_some] <;> rfl) | (simp only [← hji86]; first | rfl | (simp [errW_none, errW_some] <;> rfl)) | (simp [*, errW_none, errW_some] <;> rfl), by repeat (first | (with_reducible first | exact HB.out | apply below_alloc | apply pw_below_drewN | apply below_drew1) | exact HB.out)⟩
                ·rw [if_neg c92] at H
                 have c92b0 : (t492 == 2) = false := beq_eq_false_iff_ne.mpr c92
                 have c92b1 : (t492 != 2) = true := bne_iff_ne.mpr c92
                 obtain rfl := Option.some.inj H
                 have p482 : 0 ≤ (x25_1 : Int) := of_decide_eq_true (by first | (with_reducible assumption) | assumption)
                 have q482 : x25_1 < (l0.length : Int) := of_decide_eq_true (by first | (with_reducible assumption) | assumption)
                 obtain ⟨ad482, e482, hx482_0⟩ := Kd.at_int HR0.out x25_1 p482 q482
                 cases e482
                 replace hx482_0 := (HB.out.cell (World.block_lt_of_cell? w _ hx482_0)).trans hx482_0
                 replace p482 := eq_true p482
                 replace q482 := eq_true q482
                 have p491 : 0 ≤ ((ji86) : Int) := of_decide_eq_true (by first | (with_reducible assumption) | assumption)
                 have q491 : (ji86) < (l0.length : Int) := of_decide_eq_true (by first | (with_reducible assumption) | assumption)
                 obtain ⟨ad491, e491, hx491_0⟩ := Kd.at_int HR0.out (ji86) p491 q491
                 obtain rfl : ad482 = ad491 := (by injection e491)
                 replace hx491_0 := (HB.out.cell (World.block_lt_of_cell? w _ hx491_0)).trans hx491_0
                 replace p491 := eq_true p491
                 replace q491 := eq_true q491
                 go_wp2_with (first | ((with_reducible refine gate_callee (f := 23) rfl ?_); refine goesL_ (some 52) rfl rfl Tryz.func23 (by kernel_rfl) rfl #[.slice (some ad482) l0.length c0] rfl (by (try simp only [List.map_toArray, List.map_cons, List.map_nil]); first | done | rfl | (simp only [List.length_drop, List.length_take]; rfl)) ?_; (with_reducible refine (unit_Units_Check.calls k1 _ _ l0 t492 _ ?side1 ?side2 A91.out).mono ?_); (case side1 => repeat (first | exact (Kd.C_below HR0.out HB.out) | (with_reducible refine Kd.C_alloc ?_ _) | (with_reducible refine Kd.C_drewN ?_ _) | (with_reducible refine Kd.C_drew ?_))); (case side2 => exact HC0.out); rintro e w' ⟨rfl, ⟨nd, rfl⟩⟩; refine ⟨_, rfl, ?_⟩))
                 go_ret
                 exact ⟨by first | rfl | (simp [errW_none, errW_some] <;> rfl) | (simp only [← hji86]; first | rfl | (simp [errW_none, errW_some] <;> rfl)) | (simp [*, errW_none, errW_some] <;> rfl), by repeat (first | (with_reducible first | exact HB.out | apply below_alloc | apply pw_below_drewN | apply below_drew1) | exact HB.out)⟩
               ·rw [if_neg c90] at H
                have c90b0 : decide (40 < (l0.length : Int)) = false := decide_eq_false c90
                have c90b1 : decide (40 < l0.length) = false := decide_eq_false (by omega)
                clear c90
                replace H := Option.bind_eq_some_iff.mp H
                obtain ⟨t494, A950, H⟩ := H
                replace H : (if t494 = 6 then ((unit_Code.f a1).bind fun t495 => (if a1 ≥ 1 then (some (t495 == (decide (a1 ≤ 999)))) else (some (t495 == false)))) else (some false)) = some r := H
                have A95 := Aside0.mk A950
                clear A950
                by_cases c96 : t494 = 6
                ·rw [if_pos c96] at H
                 have c96b0 : (t494 == 6) = true := beq_iff_eq.mpr c96
                 have c96b1 : (t494 != 6) = false := bne_eq_false_iff_eq.mpr c96
                 clear c96
                 replace H := Option.bind_eq_some_iff.mp H
                 obtain ⟨t495, A970, H⟩ := H
                 replace H : (if a1 ≥ 1 then (some (t495 == (decide (a1 ≤ 999)))) else (some (t495 == false))) = some r := H
                 have A97 := Aside0.mk A970
                 clear A970
                 by_cases c98 : a1 ≥ 1
                 ·rw [if_pos c98] at H
                  have c98b0 : decide (1 ≤ a1) = true := decide_eq_true c98
                  clear c98
                  obtain rfl := Option.some.inj H
                  have p482 : 0 ≤ (x25_1 : Int) := of_decide_eq_true (by first | (with_reducible assumption) | assumption)
                  have q482 : x25_1 < (l0.length : Int) := of_decide_eq_true (by first | (with_reducible assumption) | assumption)
                  obtain ⟨ad482, e482, hx482_0⟩ := Kd.at_int HR0.out x25_1 p482 q482
                  cases e482
                  replace hx482_0 := (HB.out.cell (World.block_lt_of_cell? w _ hx482_0)).trans hx482_0
                  replace p482 := eq_true p482
                  replace q482 := eq_true q482
                  have p491 : 0 ≤ ((ji86) : Int) := of_decide_eq_true (by first | (with_reducible assumption) | assumption)
                  have q491 : (ji86) < (l0.length : Int) := of_decide_eq_true (by first | (with_reducible assumption) | assumption)
                  obtain ⟨ad491, e491, hx491_0⟩ := Kd.at_int HR0.out (ji86) p491 q491
                  obtain rfl : ad482 = ad491 := (by injection e491)
                  replace hx491_0 := (HB.out.cell (World.block_lt_of_cell? w _ hx491_0)).trans hx491_0
                  replace p491 := eq_true p491
                  replace q491 := eq_true q491
                  go_wp2_with (first | ((with_reducible refine gate_callee (f := 23) rfl ?_); refine goesL_ (some 52) rfl rfl Tryz.func23 (by kernel_rfl) rfl #[.slice (some ad482) l0.length c0] rfl (by (try simp only [List.map_toArray, List.map_cons, List.map_nil]); first | done | rfl | (simp only [List.length_drop, List.length_take]; rfl)) ?_; (with_reducible refine (unit_Units_Check.calls k1 _ _ l0 t494 _ ?side1 ?side2 A95.out).mono ?_); (case side1 => repeat (first | exact (Kd.C_below HR0.out HB.out) | (with_reducible refine Kd.C_alloc ?_ _) | (with_reducible refine Kd.C_drewN ?_ _) | (with_reducible refine Kd.C_drew ?_))); (case side2 => exact HC0.out); rintro e w' ⟨rfl, ⟨nd, rfl⟩⟩; refine ⟨_, rfl, ?_⟩) | (go_at_call 26; (with_reducible refine (unit_Code.calls a1 t495 _ A97.out).mono ?_); rintro e w' ⟨rfl, ⟨nd, rfl⟩⟩))
                  go_ret
                  exact ⟨by first | rfl | (simp [errW_none, errW_some] <;> rfl) | (simp only [← hji86]; first | rfl | (simp [errW_none, errW_some] <;> rfl)) | (simp [*, errW_none, errW_some] <;> rfl), by repeat (first | (with_reducible first | exact HB.out | apply below_alloc | apply pw_below_drewN | apply below_drew1) | exact HB.out)⟩
                 ·rw [if_neg c98] at H
                  have c98b0 : decide (1 ≤ a1) = false := decide_eq_false c98
                  clear c98
                  obtain rfl := Option.some.inj H
                  have p482 : 0 ≤ (x25_1 : Int) := of_decide_eq_true (by first | (with_reducible assumption) | assumption)
                  have q482 : x25_1 < (l0.length : Int) := of_decide_eq_true (by first | (with_reducible assumption) | assumption)
                  obtain ⟨ad482, e482, hx482_0⟩ := Kd.at_int HR0.out x25_1 p482 q482
                  cases e482
                  replace hx482_0 := (HB.out.cell (World.block_lt_of_cell? w _ hx482_0)).trans hx482_0
                  replace p482 := eq_true p482
                  replace q482 := eq_true q482
                  have p491 : 0 ≤ ((ji86) : Int) := of_decide_eq_true (by first | (with_reducible assumption) | assumption)
                  have q491 : (ji86) < (l0.length : Int) := of_decide_eq_true (by first | (with_reducible assumption) | assumption)
                  obtain ⟨ad491, e491, hx491_0⟩ := Kd.at_int HR0.out (ji86) p491 q491
                  obtain rfl : ad482 = ad491 := (by injection e491)
                  replace hx491_0 := (HB.out.cell (World.block_lt_of_cell? w _ hx491_0)).trans hx491_0
                  replace p491 := eq_true p491
                  replace q491 := eq_true q491
                  go_wp2_with (first | ((with_reducible refine gate_callee (f := 23) rfl ?_); refine goesL_ (some 52) rfl rfl Tryz.func23 (by kernel_rfl) rfl #[.slice (some ad482) l0.length c0] rfl (by (try simp only [List.map_toArray, List.map_cons, List.map_nil]); first | done | rfl | (simp only [List.length_drop, List.length_take]; rfl)) ?_; (with_reducible refine (unit_Units_Check.calls k1 _ _ l0 t494 _ ?side1 ?side2 A95.out).mono ?_); (case side1 => repeat (first | exact (Kd.C_below HR0.out HB.out) | (with_reducible refine Kd.C_alloc ?_ _) | (with_reducible refine Kd.C_drewN ?_ _) | (with_reducible refine Kd.C_drew ?_))); (case side2 => exact HC0.out); rintro e w' ⟨rfl, ⟨nd, rfl⟩⟩; refine ⟨_, rfl, ?_⟩) | (go_at_call 26; (with_reducible refine (unit_Code.calls a1 t495 _ A97.out).mono ?_); rintro e w' ⟨rfl, ⟨nd, rfl⟩⟩))
                  go_ret
                  exact ⟨by first | rfl | (simp [errW_none, errW_some] <;> rfl) | (simp only [← hji86]; first | rfl | (simp [errW_none, errW_some] <;> rfl)) | (simp [*, errW_none, errW_some] <;> rfl), by repeat (first | (with_reducible first | exact HB.out | apply below_alloc | apply pw_below_drewN | apply below_drew1) | exact HB.out)⟩
                ·rw [if_neg c96] at H
                 have c96b0 : (t494 == 6) = false := beq_eq_false_iff_ne.mpr c96
                 have c96b1 : (t494 != 6) = true := bne_iff_ne.mpr c96
                 obtain rfl := Option.some.inj H
                 have p482 : 0 ≤ (x25_1 : Int) := of_decide_eq_true (by first | (with_reducible assumption) | assumption)
                 have q482 : x25_1 < (l0.length : Int) := of_decide_eq_true (by first | (with_reducible assumption) | assumption)
                 obtain ⟨ad482, e482, hx482_0⟩ := Kd.at_int HR0.out x25_1 p482 q482
                 cases e482
                 replace hx482_0 := (HB.out.cell (World.block_lt_of_cell? w _ hx482_0)).trans hx482_0
                 replace p482 := eq_true p482
                 replace q482 := eq_true q482
                 have p491 : 0 ≤ ((ji86) : Int) := of_decide_eq_true (by first | (with_reducible assumption) | assumption)
                 have q491 : (ji86) < (l0.length : Int) := of_decide_eq_true (by first | (with_reducible assumption) | assumption)
                 obtain ⟨ad491, e491, hx491_0⟩ := Kd.at_int HR0.out (ji86) p491 q491
                 obtain rfl : ad482 = ad491 := (by injection e491)
                 replace hx491_0 := (HB.out.cell (World.block_lt_of_cell? w _ hx491_0)).trans hx491_0
                 replace p491 := eq_true p491
                 replace q491 := eq_true q491
                 go_wp2_with (first | ((with_reducible refine gate_callee (f := 23) rfl ?_); refine goesL_ (some 52) rfl rfl Tryz.func23 (by kernel_rfl) rfl #[.slice (some ad482) l0.length c0] rfl (by (try simp only [List.map_toArray, List.map_cons, List.map_nil]); first | done | rfl | (simp only [List.length_drop, List.length_take]; rfl)) ?_; (with_reducible refine (unit_Units_Check.calls k1 _ _ l0 t494 _ ?side1 ?side2 A95.out).mono ?_); (case side1 => repeat (first | exact (Kd.C_below HR0.out HB.out) | (with_reducible refine Kd.C_alloc ?_ _) | (with_reducible refine Kd.C_drewN ?_ _) | (with_reducible refine Kd.C_drew ?_))); (case side2 => exact HC0.out); rintro e w' ⟨rfl, ⟨nd, rfl⟩⟩; refine ⟨_, rfl, ?_⟩))
                 go_ret
                 exact ⟨by first | rfl | (simp [errW_none, errW_some] <;> rfl) | (simp only [← hji86]; first | rfl | (simp [errW_none, errW_some] <;> rfl)) | (simp [*, errW_none, errW_some] <;> rfl), by repeat (first | (with_reducible first | exact HB.out | apply below_alloc | apply pw_below_drewN | apply below_drew1) | exact HB.out)⟩
              ·rw [if_neg c89] at H
               have c89b0 : decide ((rd l0 x25_1) ≤ (rd l0 (ji86))) = false := decide_eq_false c89
               clear c89
               have H' := Aside0.mk H
               clear H
               have p482 : 0 ≤ (x25_1 : Int) := of_decide_eq_true (by first | (with_reducible assumption) | assumption)
               have q482 : x25_1 < (l0.length : Int) := of_decide_eq_true (by first | (with_reducible assumption) | assumption)
               obtain ⟨ad482, e482, hx482_0⟩ := Kd.at_int HR0.out x25_1 p482 q482
               cases e482
               replace hx482_0 := (HB.out.cell (World.block_lt_of_cell? w _ hx482_0)).trans hx482_0
               replace p482 := eq_true p482
               replace q482 := eq_true q482
               have p491 : 0 ≤ ((ji86) : Int) := of_decide_eq_true (by first | (with_reducible assumption) | assumption)
               have q491 : (ji86) < (l0.length : Int) := of_decide_eq_true (by first | (with_reducible assumption) | assumption)
               obtain ⟨ad491, e491, hx491_0⟩ := Kd.at_int HR0.out (ji86) p491 q491
               obtain rfl : ad482 = ad491 := (by injection e491)
               replace hx491_0 := (HB.out.cell (World.block_lt_of_cell? w _ hx491_0)).trans hx491_0
               replace p491 := eq_true p491
               replace q491 := eq_true q491
               go_wp2
               go_roundg k1
               case measure => have := HK1.out; omega
               case rel => exact ⟨(x8_1), (wrap64 (x25_1 + 1)), (by first | rfl | (simp; done) | (simp [*]; done)), (by first | rfl | (simp; done) | (simp [*]; done)), H', ⟨by have := HK1.out; omega⟩, ⟨by repeat (first | (with_reducible first | exact HB.out | apply below_alloc | apply pw_below_drewN | apply below_drew1) | exact HB.out)⟩⟩
             ·rw [if_neg c88] at H
              exact absurd H (by simp)
            ·rw [if_neg c87] at H
             exact absurd H (by simp)
           ·rw [if_neg c85] at H
            have c85b0 : decide (0 < x25_1) = false := decide_eq_false c85
            clear c85
            have H' := Aside0.mk H
            clear H
            have p482 : 0 ≤ (x25_1 : Int) := of_decide_eq_true (by first | (with_reducible assumption) | assumption)
            have q482 : x25_1 < (l0.length : Int) := of_decide_eq_true (by first | (with_reducible assumption) | assumption)
            obtain ⟨ad482, e482, hx482_0⟩ := Kd.at_int HR0.out x25_1 p482 q482
            cases e482
            replace hx482_0 := (HB.out.cell (World.block_lt_of_cell? w _ hx482_0)).trans hx482_0
            replace p482 := eq_true p482
            replace q482 := eq_true q482
            go_wp2
            go_roundg k1
            case measure => have := HK1.out; omega
            case rel => exact ⟨(x8_1), (wrap64 (x25_1 + 1)), (by first | rfl | (simp; done) | (simp [*]; done)), (by first | rfl | (simp; done) | (simp [*]; done)), H', ⟨by have := HK1.out; omega⟩, ⟨by repeat (first | (with_reducible first | exact HB.out | apply below_alloc | apply pw_below_drewN | apply below_drew1) | exact HB.out)⟩⟩
        ·rw [if_neg c64] at H
         exact absurd H (by simp)
       ·rw [if_neg c63] at H
        exact absurd H (by simp)
      ·rw [if_neg c62] at H
       have c62b0 : decide (x25_1 < (l0.length : Int)) = false := decide_eq_false c62
       clear c62
       by_cases c99 : (l0.length : Int) > 40
       ·rw [if_pos c99] at H
        have c99b0 : decide (40 < (l0.length : Int)) = true := decide_eq_true c99
        have c99b1 : decide (40 < l0.length) = true := decide_eq_true (by omega)
        clear c99
        replace H := Option.bind_eq_some_iff.mp H
        obtain ⟨t496, A1000, H⟩ := H
        replace H : (if t496 = 2 then ((unit_Code.f a1).bind fun t497 => (if a1 ≥ 1 then (some (t497 == (decide (a1 ≤ 999)))) else (some (t497 == false)))) else (some false)) = some r := H
        have A100 := Aside0.mk A1000
        clear A1000
        by_cases c101 : t496 = 2
        ·rw [if_pos c101] at H
         have c101b0 : (t496 == 2) = true := beq_iff_eq.mpr c101
         have c101b1 : (t496 != 2) = false := bne_eq_false_iff_eq.mpr c101
         clear c101
         replace H := Option.bind_eq_some_iff.mp H
         obtain ⟨t497, A1020, H⟩ := H
         replace H : (if a1 ≥ 1 then (some (t497 == (decide (a1 ≤ 999)))) else (some (t497 == false))) = some r := H
         have A102 := Aside0.mk A1020
         clear A1020
         by_cases c103 : a1 ≥ 1
         ·rw [if_pos c103] at H
          have c103b0 : decide (1 ≤ a1) = true := decide_eq_true c103
          clear c103
          obtain rfl := Option.some.inj H
          go_wp2_with (first | ((with_reducible refine gate_callee (f := 23) rfl ?_); refine goesL_ (some 52) rfl rfl Tryz.func23 (by kernel_rfl) rfl #[.slice A0 l0.length c0] rfl (by (try simp only [List.map_toArray, List.map_cons, List.map_nil]); first | done | rfl | (simp only [List.length_drop, List.length_take]; rfl)) ?_; (with_reducible refine (unit_Units_Check.calls k1 _ _ l0 t496 _ ?side1 ?side2 A100.out).mono ?_); (case side1 => repeat (first | exact (Kd.C_below HR0.out HB.out) | (with_reducible refine Kd.C_alloc ?_ _) | (with_reducible refine Kd.C_drewN ?_ _) | (with_reducible refine Kd.C_drew ?_))); (case side2 => exact HC0.out); rintro e w' ⟨rfl, ⟨nd, rfl⟩⟩; refine ⟨_, rfl, ?_⟩) | (go_at_call 26; (with_reducible refine (unit_Code.calls a1 t497 _ A102.out).mono ?_); rintro e w' ⟨rfl, ⟨nd, rfl⟩⟩))
          go_ret
          exact ⟨by first | rfl | (simp [errW_none, errW_some] <;> rfl) | (simp [*, errW_none, errW_some] <;> rfl), by repeat (first | (with_reducible first | exact HB.out | apply below_alloc | apply pw_below_drewN | apply below_drew1) | exact HB.out)⟩
         ·rw [if_neg c103] at H
          have c103b0 : decide (1 ≤ a1) = false := decide_eq_false c103
          clear c103
          obtain rfl := Option.some.inj H
          go_wp2_with (first | ((with_reducible refine gate_callee (f := 23) rfl ?_); refine goesL_ (some 52) rfl rfl Tryz.func23 (by kernel_rfl) rfl #[.slice A0 l0.length c0] rfl (by (try simp only [List.map_toArray, List.map_cons, List.map_nil]); first | done | rfl | (simp only [List.length_drop, List.length_take]; rfl)) ?_; (with_reducible refine (unit_Units_Check.calls k1 _ _ l0 t496 _ ?side1 ?side2 A100.out).mono ?_); (case side1 => repeat (first | exact (Kd.C_below HR0.out HB.out) | (with_reducible refine Kd.C_alloc ?_ _) | (with_reducible refine Kd.C_drewN ?_ _) | (with_reducible refine Kd.C_drew ?_))); (case side2 => exact HC0.out); rintro e w' ⟨rfl, ⟨nd, rfl⟩⟩; refine ⟨_, rfl, ?_⟩) | (go_at_call 26; (with_reducible refine (unit_Code.calls a1 t497 _ A102.out).mono ?_); rintro e w' ⟨rfl, ⟨nd, rfl⟩⟩))
          go_ret
          exact ⟨by first | rfl | (simp [errW_none, errW_some] <;> rfl) | (simp [*, errW_none, errW_some] <;> rfl), by repeat (first | (with_reducible first | exact HB.out | apply below_alloc | apply pw_below_drewN | apply below_drew1) | exact HB.out)⟩
        ·rw [if_neg c101] at H
         have c101b0 : (t496 == 2) = false := beq_eq_false_iff_ne.mpr c101
         have c101b1 : (t496 != 2) = true := bne_iff_ne.mpr c101
         obtain rfl := Option.some.inj H
         go_wp2_with (first | ((with_reducible refine gate_callee (f := 23) rfl ?_); refine goesL_ (some 52) rfl rfl Tryz.func23 (by kernel_rfl) rfl #[.slice A0 l0.length c0] rfl (by (try simp only [List.map_toArray, List.map_cons, List.map_nil]); first | done | rfl | (simp only [List.length_drop, List.length_take]; rfl)) ?_; (with_reducible refine (unit_Units_Check.calls k1 _ _ l0 t496 _ ?side1 ?side2 A100.out).mono ?_); (case side1 => repeat (first | exact (Kd.C_below HR0.out HB.out) | (with_reducible refine Kd.C_alloc ?_ _) | (with_reducible refine Kd.C_drewN ?_ _) | (with_reducible refine Kd.C_drew ?_))); (case side2 => exact HC0.out); rintro e w' ⟨rfl, ⟨nd, rfl⟩⟩; refine ⟨_, rfl, ?_⟩))
         go_ret
         exact ⟨by first | rfl | (simp [errW_none, errW_some] <;> rfl) | (simp [*, errW_none, errW_some] <;> rfl), by repeat (first | (with_reducible first | exact HB.out | apply below_alloc | apply pw_below_drewN | apply below_drew1) | exact HB.out)⟩
       ·rw [if_neg c99] at H
        have c99b0 : decide (40 < (l0.length : Int)) = false := decide_eq_false c99
        have c99b1 : decide (40 < l0.length) = false := decide_eq_false (by omega)
        clear c99
        replace H := Option.bind_eq_some_iff.mp H
        obtain ⟨t498, A1040, H⟩ := H
        replace H : (if t498 = x8_1 then ((unit_Code.f a1).bind fun t499 => (if a1 ≥ 1 then (some (t499 == (decide (a1 ≤ 999)))) else (some (t499 == false)))) else (some false)) = some r := H
        have A104 := Aside0.mk A1040
        clear A1040
        by_cases c105 : t498 = x8_1
        ·rw [if_pos c105] at H
         have c105b0 : (t498 == x8_1) = true := beq_iff_eq.mpr c105
         have c105b1 : (t498 != x8_1) = false := bne_eq_false_iff_eq.mpr c105
         clear c105
         replace H := Option.bind_eq_some_iff.mp H
         obtain ⟨t499, A1060, H⟩ := H
         replace H : (if a1 ≥ 1 then (some (t499 == (decide (a1 ≤ 999)))) else (some (t499 == false))) = some r := H
         have A106 := Aside0.mk A1060
         clear A1060
         by_cases c107 : a1 ≥ 1
         ·rw [if_pos c107] at H
          have c107b0 : decide (1 ≤ a1) = true := decide_eq_true c107
          clear c107
          obtain rfl := Option.some.inj H
          go_wp2_with (first | ((with_reducible refine gate_callee (f := 23) rfl ?_); refine goesL_ (some 52) rfl rfl Tryz.func23 (by kernel_rfl) rfl #[.slice A0 l0.length c0] rfl (by (try simp only [List.map_toArray, List.map_cons, List.map_nil]); first | done | rfl | (simp only [List.length_drop, List.length_take]; rfl)) ?_; (with_reducible refine (unit_Units_Check.calls k1 _ _ l0 t498 _ ?side1 ?side2 A104.out).mono ?_); (case side1 => repeat (first | exact (Kd.C_below HR0.out HB.out) | (with_reducible refine Kd.C_alloc ?_ _) | (with_reducible refine Kd.C_drewN ?_ _) | (with_reducible refine Kd.C_drew ?_))); (case side2 => exact HC0.out); rintro e w' ⟨rfl, ⟨nd, rfl⟩⟩; refine ⟨_, rfl, ?_⟩) | (go_at_call 26; (with_reducible refine (unit_Code.calls a1 t499 _ A106.out).mono ?_); rintro e w' ⟨rfl, ⟨nd, rfl⟩⟩))
          go_ret
          exact ⟨by first | rfl | (simp [errW_none, errW_some] <;> rfl) | (simp [*, errW_none, errW_some] <;> rfl), by repeat (first | (with_reducible first | exact HB.out | apply below_alloc | apply pw_below_drewN | apply below_drew1) | exact HB.out)⟩
         ·rw [if_neg c107] at H
          have c107b0 : decide (1 ≤ a1) = false := decide_eq_false c107
          clear c107
          obtain rfl := Option.some.inj H
          go_wp2_with (first | ((with_reducible refine gate_callee (f := 23) rfl ?_); refine goesL_ (some 52) rfl rfl Tryz.func23 (by kernel_rfl) rfl #[.slice A0 l0.length c0] rfl (by (try simp only [List.map_toArray, List.map_cons, List.map_nil]); first | done | rfl | (simp only [List.length_drop, List.length_take]; rfl)) ?_; (with_reducible refine (unit_Units_Check.calls k1 _ _ l0 t498 _ ?side1 ?side2 A104.out).mono ?_); (case side1 => repeat (first | exact (Kd.C_below HR0.out HB.out) | (with_reducible refine Kd.C_alloc ?_ _) | (with_reducible refine Kd.C_drewN ?_ _) | (with_reducible refine Kd.C_drew ?_))); (case side2 => exact HC0.out); rintro e w' ⟨rfl, ⟨nd, rfl⟩⟩; refine ⟨_, rfl, ?_⟩) | (go_at_call 26; (with_reducible refine (unit_Code.calls a1 t499 _ A106.out).mono ?_); rintro e w' ⟨rfl, ⟨nd, rfl⟩⟩))
          go_ret
          exact ⟨by first | rfl | (simp [errW_none, errW_some] <;> rfl) | (simp [*, errW_none, errW_some] <;> rfl), by repeat (first | (with_reducible first | exact HB.out | apply below_alloc | apply pw_below_drewN | apply below_drew1) | exact HB.out)⟩
        ·rw [if_neg c105] at H
         have c105b0 : (t498 == x8_1) = false := beq_eq_false_iff_ne.mpr c105
         have c105b1 : (t498 != x8_1) = true := bne_iff_ne.mpr c105
         obtain rfl := Option.some.inj H
         go_wp2_with (first | ((with_reducible refine gate_callee (f := 23) rfl ?_); refine goesL_ (some 52) rfl rfl Tryz.func23 (by kernel_rfl) rfl #[.slice A0 l0.length c0] rfl (by (try simp only [List.map_toArray, List.map_cons, List.map_nil]); first | done | rfl | (simp only [List.length_drop, List.length_take]; rfl)) ?_; (with_reducible refine (unit_Units_Check.calls k1 _ _ l0 t498 _ ?side1 ?side2 A104.out).mono ?_); (case side1 => repeat (first | exact (Kd.C_below HR0.out HB.out) | (with_reducible refine Kd.C_alloc ?_ _) | (with_reducible refine Kd.C_drewN ?_ _) | (with_reducible refine Kd.C_drew ?_))); (case side2 => exact HC0.out); rintro e w' ⟨rfl, ⟨nd, rfl⟩⟩; refine ⟨_, rfl, ?_⟩))
         go_ret
         exact ⟨by first | rfl | (simp [errW_none, errW_some] <;> rfl) | (simp [*, errW_none, errW_some] <;> rfl), by repeat (first | (with_reducible first | exact HB.out | apply below_alloc | apply pw_below_drewN | apply below_drew1) | exact HB.out)⟩
 ·replace c5 := Bool.eq_false_iff.mpr c5
  subst c5
  have H1 : (some false) = some r := by rw [if_neg (show ¬ (false = true) by decide)] at H; exact H
  clear H
  have H := H1
  clear H1
  obtain rfl := Option.some.inj H
  go_enter Tryz.func9, Tryz.ntmps9
  go_wp2_with (first | ((with_reducible refine gate_callee (f := 21) rfl ?_); refine goesL_ (some 11) rfl rfl Tryz.func21 (by kernel_rfl) rfl #[] rfl (by (try simp only [List.map_toArray, List.map_cons, List.map_nil]); first | done | rfl | (simp only [List.length_drop, List.length_take]; rfl)) ?_; (with_reducible refine (transposallaw07_Awake.calls k  false _ ?side1 A4.out).mono ?_); (case side1 => exact Glob.below (by repeat (first | (with_reducible first | exact HB.out | apply below_alloc | apply pw_below_drewN | apply below_drew1) | exact HB.out)) HG.out); rintro e w108 ⟨rfl, hb⟩; refine ⟨_, rfl, ?_⟩; have n0_ := Aside0.mk (below_step (by repeat (first | (with_reducible first | exact HB.out | apply below_alloc | apply pw_below_drewN | apply below_drew1) | exact HB.out)) hb); clear HB; have HB := n0_; clear n0_; (try clear hb); (try clear hb2); (try clear hk); (try clear hi)))
  go_ret
  exact ⟨by first | rfl | (simp [errW_none, errW_some] <;> rfl) | (simp [*, errW_none, errW_some] <;> rfl), by repeat (first | (with_reducible first | exact HB.out | apply below_alloc | apply pw_below_drewN | apply below_drew1) | exact HB.out)⟩

/-- THE ONE PURE STATEMENT of transposallaw07_UnitChecks: yours. -/
def transposallaw07_UnitChecks.Pure : Prop := ∀ (l0 : List Int) (a1 : Int) (a2 : Bool), l0.length ≤ maxLen → l0.length * 2 ≤ 140737488351232 → (∀ x ∈ l0, (Lit.int .u16 x).wf = true) → (Lit.int .u16 a1).wf = true → ∃ k, transposallaw07_UnitChecks.f k l0 a1 a2 = some true

end Go.Proofs.YtfpfilmdlconhaaGreatDoor.XA
