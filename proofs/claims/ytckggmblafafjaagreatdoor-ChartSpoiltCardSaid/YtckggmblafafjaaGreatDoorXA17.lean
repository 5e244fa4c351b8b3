-- Written by a program of this session's (wip/xp) out of the translation; given functions by hand.
import Derived.Test.YtckggmblafafjaaGreatDoorXA0
import Derived.Test.YtckggmblafafjaaGreatDoorXA8
import Derived.Test.YtckggmblafafjaaGreatDoorXA9
import Derived.Test.YtckggmblafafjaaGreatDoorXA14
import Derived.Test.YtckggmblafafjaaGreatDoorXA16
namespace Go.Proofs.YtckggmblafafjaaGreatDoor.XA
open Go.RowKit Go.Proofs.YtckggmblafafjaaGreatDoorW.PrintWords Go.Proofs.YtckggmblafafjaaGreatDoorW.PrintLast Go.Proofs.YtckggmblafafjaaGreatDoorW.PrintMore
attribute [local go_sem] max2_int min2_int max_two min_two max_three min_three max_four min_four   -- for this text's walks alone
set_option linter.unusedVariables false
set_option linter.unusedSimpArgs false

/-! ### transposallaw06_ChartChecks: function 5 -/
def transposallaw06_ChartChecks.f (k : Nat) (l0 : List (S26)) (l1 : List (S46)) (a2 : Bool) : Option (Bool) := (transposallaw06_Awake.f k).bind fun t397 => (if t397 = true then (if (l0.length : Int) > 210 then (some true) else (if (l1.length : Int) > 40 then (some true) else (if a2 = true then ((transposallaw06_Make.f k l1).bind fun t398 => (if t398.length + l0.length < 4398046511104 then ((some (t398 ++ l0 : List (S26))).bind fun y401 => ((chart_Chart_Check.f k y401).bind fun t404 => ((transposallaw06_Check.f k y401).bind fun t405 => (if t404 = t405 then ((transposallaw06_Make.f k l1).bind fun t406 => ((chart_Chart_Check.f k t406).bind fun t409 => (some (t409 == 0)))) else (some false))))) else (none))) else ((chart_Chart_Check.f k l0).bind fun t410 => ((transposallaw06_Check.f k l0).bind fun t411 => (if t410 = t411 then ((transposallaw06_Make.f k l1).bind fun t412 => ((chart_Chart_Check.f k t412).bind fun t415 => (some (t415 == 0)))) else (some false))))))) else (some false))
theorem transposallaw06_ChartChecks.mono : ∀ a0 a1 a2 k, LeO (transposallaw06_ChartChecks.f k a0 a1 a2) (transposallaw06_ChartChecks.f (k + 1) a0 a1 a2) := by
 intro a0 a1 a2 k
 unfold transposallaw06_ChartChecks.f
 repeat' first
   | (with_reducible exact chart_Chart_Check.mono _ _)
   | (with_reducible exact transposallaw06_Awake.mono _)
   | (with_reducible exact transposallaw06_Check.mono _ _)
   | (with_reducible exact transposallaw06_Make.mono _ _)
   | (with_reducible exact LeO.refl _)
   | (with_reducible exact LeO.none _)
   | (with_reducible refine LeO.ite ?_ ?_)
   | (with_reducible refine LeO.bind ?_ (fun _ => ?_))
   | exact chart_Chart_Check.mono _ _
   | exact transposallaw06_Awake.mono _
   | exact transposallaw06_Check.mono _ _
   | exact transposallaw06_Make.mono _ _
   | exact LeO.none _
   | refine LeO.ite ?_ ?_
   | refine LeO.bind ?_ (fun _ => ?_)
set_option maxHeartbeats 8000000 in
set_option maxRecDepth 100000 in
theorem transposallaw06_ChartChecks.calls (k : Nat) (A0 : Option Addr) (c0 : Nat) (l0 : List (S26)) (A1 : Option Addr) (c1 : Nat) (l1 : List (S46)) (a2 : Bool) (r : Bool) (w : World) (hr0 : Kd.C k26 w A0 l0.length l0) (hc0 : l0.length ≤ c0) (hr1 : Kd.C k46 w A1 l1.length l1) (hc1 : l1.length ≤ c1) (hG : Glob w) (h : transposallaw06_ChartChecks.f k l0 l1 a2 = some r) :
  Calls Tryz.prog 5 #[.slice A0 l0.length c0, .slice A1 l1.length c1, .bool a2] w fun e w' => e = .returned (.bool r) ∧ Below w.heap.size w w' := by
 have HG := Aside0.mk hG
 clear hG
 have HR0 := Aside0.mk hr0
 have HC0 := Aside0.mk hc0
 clear hr0 hc0
 have HR1 := Aside0.mk hr1
 have HC1 := Aside0.mk hc1
 clear hr1 hc1
 have HB := Aside0.mk (Below.refl w.heap.size w)
 have H : ((transposallaw06_Awake.f k).bind fun t397 => (if t397 = true then (if (l0.length : Int) > 210 then (some true) else (if (l1.length : Int) > 40 then (some true) else (if a2 = true then ((transposallaw06_Make.f k l1).bind fun t398 => (if t398.length + l0.length < 4398046511104 then ((some (t398 ++ l0 : List (S26))).bind fun y401 => ((chart_Chart_Check.f k y401).bind fun t404 => ((transposallaw06_Check.f k y401).bind fun t405 => (if t404 = t405 then ((transposallaw06_Make.f k l1).bind fun t406 => ((chart_Chart_Check.f k t406).bind fun t409 => (some (t409 == 0)))) else (some false))))) else (none))) else ((chart_Chart_Check.f k l0).bind fun t410 => ((transposallaw06_Check.f k l0).bind fun t411 => (if t410 = t411 then ((transposallaw06_Make.f k l1).bind fun t412 => ((chart_Chart_Check.f k t412).bind fun t415 => (some (t415 == 0)))) else (some false))))))) else (some false))) = some r := h
 clear h
 replace H := Option.bind_eq_some_iff.mp H
 obtain ⟨t397, A40, H⟩ := H
 replace H : (if t397 = true then (if (l0.length : Int) > 210 then (some true) else (if (l1.length : Int) > 40 then (some true) else (if a2 = true then ((transposallaw06_Make.f k l1).bind fun t398 => (if t398.length + l0.length < 4398046511104 then ((some (t398 ++ l0 : List (S26))).bind fun y401 => ((chart_Chart_Check.f k y401).bind fun t404 => ((transposallaw06_Check.f k y401).bind fun t405 => (if t404 = t405 then ((transposallaw06_Make.f k l1).bind fun t406 => ((chart_Chart_Check.f k t406).bind fun t409 => (some (t409 == 0)))) else (some false))))) else (none))) else ((chart_Chart_Check.f k l0).bind fun t410 => ((transposallaw06_Check.f k l0).bind fun t411 => (if t410 = t411 then ((transposallaw06_Make.f k l1).bind fun t412 => ((chart_Chart_Check.f k t412).bind fun t415 => (some (t415 == 0)))) else (some false))))))) else (some false)) = some r := H
 have A4 := Aside0.mk A40
 clear A40
 by_cases c5 : t397 = true
 ·subst c5
  have H1 : (if (l0.length : Int) > 210 then (some true) else (if (l1.length : Int) > 40 then (some true) else (if a2 = true then ((transposallaw06_Make.f k l1).bind fun t398 => (if t398.length + l0.length < 4398046511104 then ((some (t398 ++ l0 : List (S26))).bind fun y401 => ((chart_Chart_Check.f k y401).bind fun t404 => ((transposallaw06_Check.f k y401).bind fun t405 => (if t404 = t405 then ((transposallaw06_Make.f k l1).bind fun t406 => ((chart_Chart_Check.f k t406).bind fun t409 => (some (t409 == 0)))) else (some false))))) else (none))) else ((chart_Chart_Check.f k l0).bind fun t410 => ((transposallaw06_Check.f k l0).bind fun t411 => (if t410 = t411 then ((transposallaw06_Make.f k l1).bind fun t412 => ((chart_Chart_Check.f k t412).bind fun t415 => (some (t415 == 0)))) else (some false))))))) = some r := by rw [if_pos rfl] at H; exact H
  clear H
  have H := H1
  clear H1
  by_cases c6 : (l0.length : Int) > 210
  ·rw [if_pos c6] at H
   have c6b0 : decide (210 < (l0.length : Int)) = true := decide_eq_true c6
   have c6b1 : decide (210 < l0.length) = true := decide_eq_true (by omega)
   clear c6
   obtain rfl := Option.some.inj H
   go_enter Tryz.func5, Tryz.ntmps5
   go_wp2_with (first | ((with_reducible refine gate_callee (f := 7) rfl ?_); refine goesL_ (some 8) rfl rfl Tryz.func7 (by kernel_rfl) rfl #[] rfl (by (try simp only [List.map_toArray, List.map_cons, List.map_nil]); first | done | rfl | (simp only [List.length_drop, List.length_take]; rfl)) ?_; (with_reducible refine (transposallaw06_Awake.calls k  true _ ?side1 A4.out).mono ?_); (case side1 => exact Glob.below (by repeat (first | (with_reducible first | exact HB.out | apply below_alloc | apply pw_below_drewN | apply below_drew1) | exact HB.out)) HG.out); rintro e w7 ⟨rfl, hb⟩; refine ⟨_, rfl, ?_⟩; have n0_ := Aside0.mk (below_step (by repeat (first | (with_reducible first | exact HB.out | apply below_alloc | apply pw_below_drewN | apply below_drew1) | exact HB.out)) hb); clear HB; have HB := n0_; clear n0_; (try clear hb); (try clear hb2); (try clear hk); (try clear hi)))
   go_ret
   exact ⟨by first | rfl | (simp [errW_none, errW_some] <;> rfl) | (simp [*, errW_none, errW_some] <;> rfl), by repeat (first | (with_reducible first | exact HB.out | apply below_alloc | apply pw_below_drewN | apply below_drew1) | exact HB.out)⟩
  ·rw [if_neg c6] at H
   have c6b0 : decide (210 < (l0.length : Int)) = false := decide_eq_false c6
   have c6b1 : decide (210 < l0.length) = false := decide_eq_false (by omega)
   clear c6
   by_cases c8 : (l1.length : Int) > 40
   ·rw [if_pos c8] at H
    have c8b0 : decide (40 < (l1.length : Int)) = true := decide_eq_true c8
    have c8b1 : decide (40 < l1.length) = true := decide_eq_true (by omega)
    clear c8
    obtain rfl := Option.some.inj H
    go_enter Tryz.func5, Tryz.ntmps5
    go_wp2_with (first | ((with_reducible refine gate_callee (f := 7) rfl ?_); refine goesL_ (some 8) rfl rfl Tryz.func7 (by kernel_rfl) rfl #[] rfl (by (try simp only [List.map_toArray, List.map_cons, List.map_nil]); first | done | rfl | (simp only [List.length_drop, List.length_take]; rfl)) ?_; (with_reducible refine (transposallaw06_Awake.calls k  true _ ?side1 A4.out).mono ?_); (case side1 => exact Glob.below (by repeat (first | (with_reducible first | exact HB.out | apply below_alloc | apply pw_below_drewN | apply below_drew1) | exact HB.out)) HG.out); rintro e w9 ⟨rfl, hb⟩; refine ⟨_, rfl, ?_⟩; have n0_ := Aside0.mk (below_step (by repeat (first | (with_reducible first | exact HB.out | apply below_alloc | apply pw_below_drewN | apply below_drew1) | exact HB.out)) hb); clear HB; have HB := n0_; clear n0_; (try clear hb); (try clear hb2); (try clear hk); (try clear hi)))
    go_ret
    exact ⟨by first | rfl | (simp [errW_none, errW_some] <;> rfl) | (simp [*, errW_none, errW_some] <;> rfl), by repeat (first | (with_reducible first | exact HB.out | apply below_alloc | apply pw_below_drewN | apply below_drew1) | exact HB.out)⟩
   ·rw [if_neg c8] at H
    have c8b0 : decide (40 < (l1.length : Int)) = false := decide_eq_false c8
    have c8b1 : decide (40 < l1.length) = false := decide_eq_false (by omega)
    clear c8
    by_cases c10 : a2 = true
    ·subst c10
     have H1 : ((transposallaw06_Make.f k l1).bind fun t398 => (if t398.length + l0.length < 4398046511104 then ((some (t398 ++ l0 : List (S26))).bind fun y401 => ((chart_Chart_Check.f k y401).bind fun t404 => ((transposallaw06_Check.f k y401).bind fun t405 => (if t404 = t405 then ((transposallaw06_Make.f k l1).bind fun t406 => ((chart_Chart_Check.f k t406).bind fun t409 => (some (t409 == 0)))) else (some false))))) else (none))) = some r := by rw [if_pos rfl] at H; exact H
     clear H
     have H := H1
     clear H1
     replace H := Option.bind_eq_some_iff.mp H
     obtain ⟨t398, A110, H⟩ := H
     replace H : (if t398.length + l0.length < 4398046511104 then ((some (t398 ++ l0 : List (S26))).bind fun y401 => ((chart_Chart_Check.f k y401).bind fun t404 => ((transposallaw06_Check.f k y401).bind fun t405 => (if t404 = t405 then ((transposallaw06_Make.f k l1).bind fun t406 => ((chart_Chart_Check.f k t406).bind fun t409 => (some (t409 == 0)))) else (some false))))) else (none)) = some r := H
     have A11 := Aside0.mk A110
     clear A110
     by_cases c12 : t398.length + l0.length < 4398046511104
     ·rw [if_pos c12] at H
      have LMc12 := Aside0.mk c12
      clear c12
      obtain ⟨y401, hy401⟩ : ∃ y_ : List (S26), y_ = (t398 ++ l0) := ⟨_, rfl⟩
      replace H : ((chart_Chart_Check.f k y401).bind fun t404 => ((transposallaw06_Check.f k y401).bind fun t405 => (if t404 = t405 then ((transposallaw06_Make.f k l1).bind fun t406 => ((chart_Chart_Check.f k t406).bind fun t409 => (some (t409 == 0)))) else (some false)))) = some r := by first | (rw [hy401]; with_reducible exact H) | (have H2_ := (Option.bind_some _ _).symm.trans H; rw [hy401]; with_reducible exact H2_) | (have H2_ := (Option.bind_some _ _).symm.trans H; with_reducible exact H2_) | with_reducible exact H | (rw [hy401]; exact H) | exact H
      have Ny401 := Aside0.mk hy401
      clear hy401
      replace H := Option.bind_eq_some_iff.mp H
      obtain ⟨t404, A130, H⟩ := H
      replace H : ((transposallaw06_Check.f k y401).bind fun t405 => (if t404 = t405 then ((transposallaw06_Make.f k l1).bind fun t406 => ((chart_Chart_Check.f k t406).bind fun t409 => (some (t409 == 0)))) else (some false))) = some r := H
      have A13 := Aside0.mk A130
      clear A130
      replace H := Option.bind_eq_some_iff.mp H
      obtain ⟨t405, A140, H⟩ := H
      replace H : (if t404 = t405 then ((transposallaw06_Make.f k l1).bind fun t406 => ((chart_Chart_Check.f k t406).bind fun t409 => (some (t409 == 0)))) else (some false)) = some r := H
      have A14 := Aside0.mk A140
      clear A140
      by_cases c15 : t404 = t405
      ·rw [if_pos c15] at H
       have c15b0 : (t404 == t405) = true := beq_iff_eq.mpr c15
       have c15b1 : (t404 != t405) = false := bne_eq_false_iff_eq.mpr c15
       clear c15
       replace H := Option.bind_eq_some_iff.mp H
       obtain ⟨t406, A160, H⟩ := H
       replace H : ((chart_Chart_Check.f k t406).bind fun t409 => (some (t409 == 0))) = some r := H
       have A16 := Aside0.mk A160
       clear A160
       replace H := Option.bind_eq_some_iff.mp H
       obtain ⟨t409, A170, H⟩ := H
       replace H : (some (t409 == 0)) = some r := H
       have A17 := Aside0.mk A170
       clear A170
       obtain rfl := Option.some.inj H
       go_enter Tryz.func5, Tryz.ntmps5
       go_wp2_with (first | ((with_reducible refine gate_callee (f := 7) rfl ?_); refine goesL_ (some 8) rfl rfl Tryz.func7 (by kernel_rfl) rfl #[] rfl (by (try simp only [List.map_toArray, List.map_cons, List.map_nil]); first | done | rfl | (simp only [List.length_drop, List.length_take]; rfl)) ?_; (with_reducible refine (transposallaw06_Awake.calls k  true _ ?side1 A4.out).mono ?_); (case side1 => exact Glob.below (by repeat (first | (with_reducible first | exact HB.out | apply below_alloc | apply pw_below_drewN | apply below_drew1) | exact HB.out)) HG.out); rintro e w18 ⟨rfl, hb⟩; refine ⟨_, rfl, ?_⟩; have n0_ := Aside0.mk (below_step (by repeat (first | (with_reducible first | exact HB.out | apply below_alloc | apply pw_below_drewN | apply below_drew1) | exact HB.out)) hb); clear HB; have HB := n0_; clear n0_; (try clear hb); (try clear hb2); (try clear hk); (try clear hi)) | ((with_reducible refine gate_callee (f := 8) rfl ?_); refine goesL_ (some 21) rfl rfl Tryz.func8 (by kernel_rfl) rfl #[.slice A1 l1.length c1] rfl (by (try simp only [List.map_toArray, List.map_cons, List.map_nil]); first | done | rfl | (simp only [List.length_drop, List.length_take]; rfl)) ?_; (with_reducible refine (transposallaw06_Make.calls k _ _ l1 t398 _ ?side1 ?side2 A11.out).mono ?_); (case side1 => repeat (first | exact (Kd.C_below HR1.out HB.out) | (with_reducible refine Kd.C_alloc ?_ _) | (with_reducible refine Kd.C_drewN ?_ _) | (with_reducible refine Kd.C_drew ?_))); (case side2 => exact HC1.out); rintro e w19 ⟨v399, rfl, ho0, hb⟩; refine ⟨_, rfl, ?_⟩; have n0_ := Aside0.mk (Kd.R_lower ho0 (below_size (by repeat (first | (with_reducible first | exact HB.out | apply below_alloc | apply pw_below_drewN | apply below_drew1) | exact HB.out)))); have n1_ := Aside0.mk (below_step (by repeat (first | (with_reducible first | exact HB.out | apply below_alloc | apply pw_below_drewN | apply below_drew1) | exact HB.out)) hb); clear HB; have HO400 := n0_; have HB := n1_; clear n0_ n1_; (try clear hb); (try clear hb2); (try clear hk); (try clear hi); (try clear ho0)) | ((with_reducible refine gate_builtin (b := .append) (xs := #[.tmp 21, .tmp 22]) rfl ?_); (try (refine gate_guard (by rfl) ?_; dsimp only)); at_builtin; refine XMem.R_append_flat k26 flat26 (w0 := w) w.heap.size rfl (.tmp 21) (.tmp 22) 29 28 26 26 (.agg #[(.int .u32 0), (.string ⟨#[]⟩), (.int .u8 0), (.int .u32 0)]) 32 rfl Tryz.underlying29 Tryz.underlying28 info26 rfl (by omega) v399 t398 l0 _ _ _ (fun _ => True) rfl rfl ?aO ?aR ?aF ?aB ?aS ?aL ?_; (case aR => repeat (first | exact (Kd.C_below HR0.out HB.out) | (with_reducible refine Kd.C_alloc ?_ _) | (with_reducible refine Kd.C_drewN ?_ _) | (with_reducible refine Kd.C_drew ?_))); (case aB => exact (by repeat (first | (with_reducible first | exact HB.out | apply below_alloc | apply pw_below_drewN | apply below_drew1) | exact HB.out))); (case aF => exact (fun _ _ => trivial)); (case aO => exact (by (with_reducible repeat (first | apply Kd.R_alloc | apply Kd.R_drewN | apply Kd.R_drew)); exact HO400.out)); (case aS => exact (below_size (by repeat (first | (with_reducible first | exact HB.out | apply below_alloc | apply pw_below_drewN | apply below_drew1) | exact HB.out)))); (case aL => have := LMc12.out; omega); intro v402 w20 ho hb hg hat; rw [← Ny401.out] at ho; have n0_ := Aside0.mk (hb); have n1_ := Aside0.mk (ho); clear HB; clear HO400; have HB := n0_; have HO403 := n1_; clear n0_ n1_; clear ho hb hg hat; obtain ⟨Ao21, co21, eo21⟩ := Kd.R_slice HO403.out; subst eo21) | ((with_reducible refine gate_callee (f := 15) rfl ?_); refine goesL_ (some 25) rfl rfl Tryz.func15 (by kernel_rfl) rfl #[.slice Ao21 y401.length co21] rfl (by (try simp only [List.map_toArray, List.map_cons, List.map_nil]); first | done | rfl | (simp only [List.length_drop, List.length_take]; rfl)) ?_; (with_reducible refine (chart_Chart_Check.calls k _ _ y401 t404 _ ?side1 ?side2 A13.out).mono ?_); (case side1 => repeat (first | exact (Kd.R_reads' HO403.out).2.2 | (with_reducible refine Kd.C_alloc ?_ _) | (with_reducible refine Kd.C_drewN ?_ _) | (with_reducible refine Kd.C_drew ?_))); (case side2 => exact (Kd.R_reads' HO403.out).2.1); rintro e w22 ⟨rfl, hb⟩; refine ⟨_, rfl, ?_⟩; have n0_ := Aside0.mk (Kd.R_below (by (with_reducible repeat (first | apply Kd.R_alloc | apply Kd.R_drewN | apply Kd.R_drew)); exact HO403.out) hb); have n1_ := Aside0.mk (below_step (by repeat (first | (with_reducible first | exact HB.out | apply below_alloc | apply pw_below_drewN | apply below_drew1) | exact HB.out)) hb); clear HO403; clear HB; have HO403 := n0_; have HB := n1_; clear n0_ n1_; (try clear hb); (try clear hb2); (try clear hk); (try clear hi)) | ((with_reducible refine gate_callee (f := 16) rfl ?_); refine goesL_ (some 27) rfl rfl Tryz.func16 (by kernel_rfl) rfl #[.slice Ao21 y401.length co21] rfl (by (try simp only [List.map_toArray, List.map_cons, List.map_nil]); first | done | rfl | (simp only [List.length_drop, List.length_take]; rfl)) ?_; (with_reducible refine (transposallaw06_Check.calls k _ _ y401 t405 _ ?side1 ?side2 A14.out).mono ?_); (case side1 => repeat (first | exact (Kd.R_reads' HO403.out).2.2 | (with_reducible refine Kd.C_alloc ?_ _) | (with_reducible refine Kd.C_drewN ?_ _) | (with_reducible refine Kd.C_drew ?_))); (case side2 => exact (Kd.R_reads' HO403.out).2.1); rintro e w23 ⟨rfl, hb⟩; refine ⟨_, rfl, ?_⟩; have n0_ := Aside0.mk (Kd.R_below (by (with_reducible repeat (first | apply Kd.R_alloc | apply Kd.R_drewN | apply Kd.R_drew)); exact HO403.out) hb); have n1_ := Aside0.mk (below_step (by repeat (first | (with_reducible first | exact HB.out | apply below_alloc | apply pw_below_drewN | apply below_drew1) | exact HB.out)) hb); clear HO403; clear HB; have HO403 := n0_; have HB := n1_; clear n0_ n1_; (try clear hb); (try clear hb2); (try clear hk); (try clear hi)) | (go_at_call 8; (with_reducible refine (transposallaw06_Make.calls k _ _ l1 t406 _ ?side1 ?side2 A16.out).mono ?_); (case side1 => repeat (first | exact (Kd.C_below HR1.out HB.out) | (with_reducible refine Kd.C_alloc ?_ _) | (with_reducible refine Kd.C_drewN ?_ _) | (with_reducible refine Kd.C_drew ?_))); (case side2 => exact HC1.out); rintro e w24 ⟨v407, rfl, ho0, hb⟩; have n0_ := Aside0.mk (Kd.R_elder' (by (with_reducible repeat (first | apply Kd.R_alloc | apply Kd.R_drewN | apply Kd.R_drew)); exact HO403.out) (Kd.R_base ho0) hb); have n1_ := Aside0.mk (Kd.R_lower (Kd.R_new' ho0 (Kd.R_lt (by (with_reducible repeat (first | apply Kd.R_alloc | apply Kd.R_drewN | apply Kd.R_drew)); exact HO403.out))) (below_size (by repeat (first | (with_reducible first | exact HB.out | apply below_alloc | apply pw_below_drewN | apply below_drew1) | exact HB.out)))); have n2_ := Aside0.mk (below_step (by repeat (first | (with_reducible first | exact HB.out | apply below_alloc | apply pw_below_drewN | apply below_drew1) | exact HB.out)) hb); clear HO403; clear HB; have HO403 := n0_; have HO408 := n1_; have HB := n2_; clear n0_ n1_ n2_; (try clear hb); (try clear hb2); (try clear hk); (try clear hi); (try clear ho0); obtain ⟨Ao25, co25, eo25⟩ := Kd.R_slice HO408.out; subst eo25) | (go_at_call 15; (with_reducible refine (chart_Chart_Check.calls k _ _ t406 t409 _ ?side1 ?side2 A17.out).mono ?_); (case side1 => repeat (first | exact (Kd.R_reads' HO408.out).2.2 | (with_reducible refine Kd.C_alloc ?_ _) | (with_reducible refine Kd.C_drewN ?_ _) | (with_reducible refine Kd.C_drew ?_))); (case side2 => exact (Kd.R_reads' HO408.out).2.1); rintro e w26 ⟨rfl, hb⟩; have n0_ := Aside0.mk (Kd.R_below (by (with_reducible repeat (first | apply Kd.R_alloc | apply Kd.R_drewN | apply Kd.R_drew)); exact HO403.out) hb); have n1_ := Aside0.mk (Kd.R_below (by (with_reducible repeat (first | apply Kd.R_alloc | apply Kd.R_drewN | apply Kd.R_drew)); exact HO408.out) hb); have n2_ := Aside0.mk (below_step (by repeat (first | (with_reducible first | exact HB.out | apply below_alloc | apply pw_below_drewN | apply below_drew1) | exact HB.out)) hb); clear HO403; clear HO408; clear HB; have HO403 := n0_; have HO408 := n1_; have HB := n2_; clear n0_ n1_ n2_; (try clear hb); (try clear hb2); (try clear hk); (try clear hi)))
       go_ret
       exact ⟨by first | rfl | (simp [errW_none, errW_some] <;> rfl) | (simp [*, errW_none, errW_some] <;> rfl), by repeat (first | (with_reducible first | exact HB.out | apply below_alloc | apply pw_below_drewN | apply below_drew1) | exact HB.out)⟩
      ·rw [if_neg c15] at H
       have c15b0 : (t404 == t405) = false := beq_eq_false_iff_ne.mpr c15
       have c15b1 : (t404 != t405) = true := bne_iff_ne.mpr c15
       obtain rfl := Option.some.inj H
       go_enter Tryz.func5, Tryz.ntmps5
       go_wp2_with (first | ((with_reducible refine gate_callee (f := 7) rfl ?_); refine goesL_ (some 8) rfl rfl Tryz.func7 (by kernel_rfl) rfl #[] rfl (by (try simp only [List.map_toArray, List.map_cons, List.map_nil]); first | done | rfl | (simp only [List.length_drop, List.length_take]; rfl)) ?_; (with_reducible refine (transposallaw06_Awake.calls k  true _ ?side1 A4.out).mono ?_); (case side1 => exact Glob.below (by repeat (first | (with_reducible first | exact HB.out | apply below_alloc | apply pw_below_drewN | apply below_drew1) | exact HB.out)) HG.out); rintro e w27 ⟨rfl, hb⟩; refine ⟨_, rfl, ?_⟩; have n0_ := Aside0.mk (below_step (by repeat (first | (with_reducible first | exact HB.out | apply below_alloc | apply pw_below_drewN | apply below_drew1) | exact HB.out)) hb); clear HB; have HB := n0_; clear n0_; (try clear hb); (try clear hb2); (try clear hk); (try clear hi)) | ((with_reducible refine gate_callee (f := 8) rfl ?_); refine goesL_ (some 21) rfl rfl Tryz.func8 (by kernel_rfl) rfl #[.slice A1 l1.length c1] rfl (by (try simp only [List.map_toArray, List.map_cons, List.map_nil]); first | done | rfl | (simp only [List.length_drop, List.length_take]; rfl)) ?_; (with_reducible refine (transposallaw06_Make.calls k _ _ l1 t398 _ ?side1 ?side2 A11.out).mono ?_); (case side1 => repeat (first | exact (Kd.C_below HR1.out HB.out) | (with_reducible refine Kd.C_alloc ?_ _) | (with_reducible refine Kd.C_drewN ?_ _) | (with_reducible refine Kd.C_drew ?_))); (case side2 => exact HC1.out); rintro e w28 ⟨v399, rfl, ho0, hb⟩; refine ⟨_, rfl, ?_⟩; have n0_ := Aside0.mk (Kd.R_lower ho0 (below_size (by repeat (first | (with_reducible first | exact HB.out | apply below_alloc | apply pw_below_drewN | apply below_drew1) | exact HB.out)))); have n1_ := Aside0.mk (below_step (by repeat (first | (with_reducible first | exact HB.out | apply below_alloc | apply pw_below_drewN | apply below_drew1) | exact HB.out)) hb); clear HB; have HO400 := n0_; have HB := n1_; clear n0_ n1_; (try clear hb); (try clear hb2); (try clear hk); (try clear hi); (try clear ho0)) | ((with_reducible refine gate_builtin (b := .append) (xs := #[.tmp 21, .tmp 22]) rfl ?_); (try (refine gate_guard (by rfl) ?_; dsimp only)); at_builtin; refine XMem.R_append_flat k26 flat26 (w0 := w) w.heap.size rfl (.tmp 21) (.tmp 22) 29 28 26 26 (.agg #[(.int .u32 0), (.string ⟨#[]⟩), (.int .u8 0), (.int .u32 0)]) 32 rfl Tryz.underlying29 Tryz.underlying28 info26 rfl (by omega) v399 t398 l0 _ _ _ (fun _ => True) rfl rfl ?aO ?aR ?aF ?aB ?aS ?aL ?_; (case aR => repeat (first | exact (Kd.C_below HR0.out HB.out) | (with_reducible refine Kd.C_alloc ?_ _) | (with_reducible refine Kd.C_drewN ?_ _) | (with_reducible refine Kd.C_drew ?_))); (case aB => exact (by repeat (first | (with_reducible first | exact HB.out | apply below_alloc | apply pw_below_drewN | apply below_drew1) | exact HB.out))); (case aF => exact (fun _ _ => trivial)); (case aO => exact (by (with_reducible repeat (first | apply Kd.R_alloc | apply Kd.R_drewN | apply Kd.R_drew)); exact HO400.out)); (case aS => exact (below_size (by repeat (first | (with_reducible first | exact HB.out | apply below_alloc | apply pw_below_drewN | apply below_drew1) | exact HB.out)))); (case aL => have := LMc12.out; omega); intro v402 w29 ho hb hg hat; rw [← Ny401.out] at ho; have n0_ := Aside0.mk (hb); have n1_ := Aside0.mk (ho); clear HB; clear HO400; have HB := n0_; have HO403 := n1_; clear n0_ n1_; clear ho hb hg hat; obtain ⟨Ao30, co30, eo30⟩ := Kd.R_slice HO403.out; subst eo30) | ((with_reducible refine gate_callee (f := 15) rfl ?_); refine goesL_ (some 25) rfl rfl Tryz.func15 (by kernel_rfl) rfl #[.slice Ao30 y401.length co30] rfl (by (try simp only [List.map_toArray, List.map_cons, List.map_nil]); first | done | rfl | (simp only [List.length_drop, List.length_take]; rfl)) ?_; (with_reducible refine (chart_Chart_Check.calls k _ _ y401 t404 _ ?side1 ?side2 A13.out).mono ?_); (case side1 => repeat (first | exact (Kd.R_reads' HO403.out).2.2 | (with_reducible refine Kd.C_alloc ?_ _) | (with_reducible refine Kd.C_drewN ?_ _) | (with_reducible refine Kd.C_drew ?_))); (case side2 => exact (Kd.R_reads' HO403.out).2.1); rintro e w31 ⟨rfl, hb⟩; refine ⟨_, rfl, ?_⟩; have n0_ := Aside0.mk (Kd.R_below (by (with_reducible repeat (first | apply Kd.R_alloc | apply Kd.R_drewN | apply Kd.R_drew)); exact HO403.out) hb); have n1_ := Aside0.mk (below_step (by repeat (first | (with_reducible first | exact HB.out | apply below_alloc | apply pw_below_drewN | apply below_drew1) | exact HB.out)) hb); clear HO403; clear HB; have HO403 := n0_; have HB := n1_; clear n0_ n1_; (try clear hb); (try clear hb2); (try clear hk); (try clear hi)) | ((with_reducible refine gate_callee (f := 16) rfl ?_); refine goesL_ (some 27) rfl rfl Tryz.func16 (by kernel_rfl) rfl #[.slice Ao30 y401.length co30] rfl (by (try simp only [List.map_toArray, List.map_cons, List.map_nil]); first | done | rfl | (simp only [List.length_drop, List.length_take]; rfl)) ?_; (with_reducible refine (transposallaw06_Check.calls k _ _ y401 t405 _ ?side1 ?side2 A14.out).mono ?_); (case side1 => repeat (first | exact (Kd.R_reads' HO403.out).2.2 | (with_reducible refine Kd.C_alloc ?_ _) | (with_reducible refine Kd.C_drewN ?_ _) | (with_reducible refine Kd.C_drew ?_))); (case side2 => exact (Kd.R_reads' HO403.out).2.1); rintro e w32 ⟨rfl, hb⟩; refine ⟨_, rfl, ?_⟩; have n0_ := Aside0.mk (Kd.R_below (by (with_reducible repeat (first | apply Kd.R_alloc | apply Kd.R_drewN | apply Kd.R_drew)); exact HO403.out) hb); have n1_ := Aside0.mk (below_step (by repeat (first | (with_reducible first | exact HB.out | apply below_alloc | apply pw_below_drewN | apply below_drew1) | exact HB.out)) hb); clear HO403; clear HB; have HO403 := n0_; have HB := n1_; clear n0_ n1_; (try clear hb); (try clear hb2); (try clear hk); (try clear hi)))
       go_ret
       exact ⟨by first | rfl | (simp [errW_none, errW_some] <;> rfl) | (simp [*, errW_none, errW_some] <;> rfl), by repeat (first | (with_reducible first | exact HB.out | apply below_alloc | apply pw_below_drewN | apply below_drew1) | exact HB.out)⟩
     ·rw [if_neg c12] at H
      exact absurd H (by simp)
    ·replace c10 := Bool.eq_false_iff.mpr c10
     subst c10
     have H1 : ((chart_Chart_Check.f k l0).bind fun t410 => ((transposallaw06_Check.f k l0).bind fun t411 => (if t410 = t411 then ((transposallaw06_Make.f k l1).bind fun t412 => ((chart_Chart_Check.f k t412).bind fun t415 => (some (t415 == 0)))) else (some false)))) = some r := by rw [if_neg (show ¬ (false = true) by decide)] at H; exact H
     clear H
     have H := H1
     clear H1
     replace H := Option.bind_eq_some_iff.mp H
     obtain ⟨t410, A330, H⟩ := H
     replace H : ((transposallaw06_Check.f k l0).bind fun t411 => (if t410 = t411 then ((transposallaw06_Make.f k l1).bind fun t412 => ((chart_Chart_Check.f k t412).bind fun t415 => (some (t415 == 0)))) else (some false))) = some r := H
     have A33 := Aside0.mk A330
     clear A330
     replace H := Option.bind_eq_some_iff.mp H
     obtain ⟨t411, A340, H⟩ := H
     replace H : (if t410 = t411 then ((transposallaw06_Make.f k l1).bind fun t412 => ((chart_Chart_Check.f k t412).bind fun t415 => (some (t415 == 0)))) else (some false)) = some r := H
     have A34 := Aside0.mk A340
     clear A340
     by_cases c35 : t410 = t411
     ·rw [if_pos c35] at H
      have c35b0 : (t410 == t411) = true := beq_iff_eq.mpr c35
      have c35b1 : (t410 != t411) = false := bne_eq_false_iff_eq.mpr c35
      clear c35
      replace H := Option.bind_eq_some_iff.mp H
      obtain ⟨t412, A360, H⟩ := H
      replace H : ((chart_Chart_Check.f k t412).bind fun t415 => (some (t415 == 0))) = some r := H
      have A36 := Aside0.mk A360
      clear A360
      replace H := Option.bind_eq_some_iff.mp H
      obtain ⟨t415, A370, H⟩ := H
      replace H : (some (t415 == 0)) = some r := H
      have A37 := Aside0.mk A370
      clear A370
      obtain rfl := Option.some.inj H
      go_enter Tryz.func5, Tryz.ntmps5
      go_wp2_with (first | ((with_reducible refine gate_callee (f := 7) rfl ?_); refine goesL_ (some 8) rfl rfl Tryz.func7 (by kernel_rfl) rfl #[] rfl (by (try simp only [List.map_toArray, List.map_cons, List.map_nil]); first | done | rfl | (simp only [List.length_drop, List.length_take]; rfl)) ?_; (with_reducible refine (transposallaw06_Awake.calls k  true _ ?side1 A4.out).mono ?_); (case side1 => exact Glob.below (by repeat (first | (with_reducible first | exact HB.out | apply below_alloc | apply pw_below_drewN | apply below_drew1) | exact HB.out)) HG.out); rintro e w38 ⟨rfl, hb⟩; refine ⟨_, rfl, ?_⟩; have n0_ := Aside0.mk (below_step (by repeat (first | (with_reducible first | exact HB.out | apply below_alloc | apply pw_below_drewN | apply below_drew1) | exact HB.out)) hb); clear HB; have HB := n0_; clear n0_; (try clear hb); (try clear hb2); (try clear hk); (try clear hi)) | ((with_reducible refine gate_callee (f := 15) rfl ?_); refine goesL_ (some 25) rfl rfl Tryz.func15 (by kernel_rfl) rfl #[.slice A0 l0.length c0] rfl (by (try simp only [List.map_toArray, List.map_cons, List.map_nil]); first | done | rfl | (simp only [List.length_drop, List.length_take]; rfl)) ?_; (with_reducible refine (chart_Chart_Check.calls k _ _ l0 t410 _ ?side1 ?side2 A33.out).mono ?_); (case side1 => repeat (first | exact (Kd.C_below HR0.out HB.out) | (with_reducible refine Kd.C_alloc ?_ _) | (with_reducible refine Kd.C_drewN ?_ _) | (with_reducible refine Kd.C_drew ?_))); (case side2 => exact HC0.out); rintro e w39 ⟨rfl, hb⟩; refine ⟨_, rfl, ?_⟩; have n0_ := Aside0.mk (below_step (by repeat (first | (with_reducible first | exact HB.out | apply below_alloc | apply pw_below_drewN | apply below_drew1) | exact HB.out)) hb); clear HB; have HB := n0_; clear n0_; (try clear hb); (try clear hb2); (try clear hk); (try clear hi)) | ((with_reducible refine gate_callee (f := 16) rfl ?_); refine goesL_ (some 27) rfl rfl Tryz.func16 (by kernel_rfl) rfl #[.slice A0 l0.length c0] rfl (by (try simp only [List.map_toArray, List.map_cons, List.map_nil]); first | done | rfl | (simp only [List.length_drop, List.length_take]; rfl)) ?_; (with_reducible refine (transposallaw06_Check.calls k _ _ l0 t411 _ ?side1 ?side2 A34.out).mono ?_); (case side1 => repeat (first | exact (Kd.C_below HR0.out HB.out) | (with_reducible refine Kd.C_alloc ?_ _) | (with_reducible refine Kd.C_drewN ?_ _) | (with_reducible refine Kd.C_drew ?_))); (case side2 => exact HC0.out); rintro e w40 ⟨rfl, hb⟩; refine ⟨_, rfl, ?_⟩; have n0_ := Aside0.mk (below_step (by repeat (first | (with_reducible first | exact HB.out | apply below_alloc | apply pw_below_drewN | apply below_drew1) | exact HB.out)) hb); clear HB; have HB := n0_; clear n0_; (try clear hb); (try clear hb2); (try clear hk); (try clear hi)) | (go_at_call 8; (with_reducible refine (transposallaw06_Make.calls k _ _ l1 t412 _ ?side1 ?side2 A36.out).mono ?_); (case side1 => repeat (first | exact (Kd.C_below HR1.out HB.out) | (with_reducible refine Kd.C_alloc ?_ _) | (with_reducible refine Kd.C_drewN ?_ _) | (with_reducible refine Kd.C_drew ?_))); (case side2 => exact HC1.out); rintro e w41 ⟨v413, rfl, ho0, hb⟩; have n0_ := Aside0.mk (Kd.R_lower ho0 (below_size (by repeat (first | (with_reducible first | exact HB.out | apply below_alloc | apply pw_below_drewN | apply below_drew1) | exact HB.out)))); have n1_ := Aside0.mk (below_step (by repeat (first | (with_reducible first | exact HB.out | apply below_alloc | apply pw_below_drewN | apply below_drew1) | exact HB.out)) hb); clear HB; have HO414 := n0_; have HB := n1_; clear n0_ n1_; (try clear hb); (try clear hb2); (try clear hk); (try clear hi); (try clear ho0); obtain ⟨Ao42, co42, eo42⟩ := Kd.R_slice HO414.out; subst eo42) | (go_at_call 15; (with_reducible refine (chart_Chart_Check.calls k _ _ t412 t415 _ ?side1 ?side2 A37.out).mono ?_); (case side1 => repeat (first | exact (Kd.R_reads' HO414.out).2.2 | (with_reducible refine Kd.C_alloc ?_ _) | (with_reducible refine Kd.C_drewN ?_ _) | (with_reducible refine Kd.C_drew ?_))); (case side2 => exact (Kd.R_reads' HO414.out).2.1); rintro e w43 ⟨rfl, hb⟩; have n0_ := Aside0.mk (Kd.R_below (by (with_reducible repeat (first | apply Kd.R_alloc | apply Kd.R_drewN | apply Kd.R_drew)); exact HO414.out) hb); have n1_ := Aside0.mk (below_step (by repeat (first | (with_reducible first | exact HB.out | apply below_alloc | apply pw_below_drewN | apply below_drew1) | exact HB.out)) hb); clear HO414; clear HB; have HO414 := n0_; have HB := n1_; clear n0_ n1_; (try clear hb); (try clear hb2); (try clear hk); (try clear hi)))
      go_ret
      exact ⟨by first | rfl | (simp [errW_none, errW_some] <;> rfl) | (simp [*, errW_none, errW_some] <;> rfl), by repeat (first | (with_reducible first | exact HB.out | apply below_alloc | apply pw_below_drewN | apply below_drew1) | exact HB.out)⟩
     ·rw [if_neg c35] at H
      have c35b0 : (t410 == t411) = false := beq_eq_false_iff_ne.mpr c35
      have c35b1 : (t410 != t411) = true := bne_iff_ne.mpr c35
      obtain rfl := Option.some.inj H
      go_enter Tryz.func5, Tryz.ntmps5
      go_wp2_with (first | ((with_reducible refine gate_callee (f := 7) rfl ?_); refine goesL_ (some 8) rfl rfl Tryz.func7 (by kernel_rfl) rfl #[] rfl (by (try simp only [List.map_toArray, List.map_cons, List.map_nil]); first | done | rfl | (simp only [List.length_drop, List.length_take]; rfl)) ?_; (with_reducible refine (transposallaw06_Awake.calls k  true _ ?side1 A4.out).mono ?_); (case side1 => exact Glob.below (by repeat (first | (with_reducible first | exact HB.out | apply below_alloc | apply pw_below_drewN | apply below_drew1) | exact HB.out)) HG.out); rintro e w44 ⟨rfl, hb⟩; refine ⟨_, rfl, ?_⟩; have n0_ := Aside0.mk (below_step (by repeat (first | (with_reducible first | exact HB.out | apply below_alloc | apply pw_below_drewN | apply below_drew1) | exact HB.out)) hb); clear HB; have HB := n0_; clear n0_; (try clear hb); (try clear hb2); (try clear hk); (try clear hi)) | ((with_reducible refine gate_callee (f := 15) rfl ?_); refine goesL_ (some 25) rfl rfl Tryz.func15 (by kernel_rfl) rfl #[.slice A0 l0.length c0] rfl (by (try simp only [List.map_toArray, List.map_cons, List.map_nil]); first | done | rfl | (simp only [List.length_drop, List.length_take]; rfl)) ?_; (with_reducible refine (chart_Chart_Check.calls k _ _ l0 t410 _ ?side1 ?side2 A33.out).mono ?_); (case side1 => repeat (first | exact (Kd.C_below HR0.out HB.out) | (with_reducible refine Kd.C_alloc ?_ _) | (with_reducible refine Kd.C_drewN ?_ _) | (with_reducible refine Kd.C_drew ?_))); (case side2 => exact HC0.out); rintro e w45 ⟨rfl, hb⟩; refine ⟨_, rfl, ?_⟩; have n0_ := Aside0.mk (below_step (by repeat (first | (with_reducible first | exact HB.out | apply below_alloc | apply pw_below_drewN | apply below_drew1) | exact HB.out)) hb); clear HB; have HB := n0_; clear n0_; (try clear hb); (try clear hb2); (try clear hk); (try clear hi)) | ((with_reducible refine gate_callee (f := 16) rfl ?_); refine goesL_ (some 27) rfl rfl Tryz.func16 (by kernel_rfl) rfl #[.slice A0 l0.length c0] rfl (by (try simp only [List.map_toArray, List.map_cons, List.map_nil]); first | done | rfl | (simp only [List.length_drop, List.length_take]; rfl)) ?_; (with_reducible refine (transposallaw06_Check.calls k _ _ l0 t411 _ ?side1 ?side2 A34.out).mono ?_); (case side1 => repeat (first | exact (Kd.C_below HR0.out HB.out) | (with_reducible refine Kd.C_alloc ?_ _) | (with_reducible refine Kd.C_drewN ?_ _) | (with_reducible refine Kd.C_drew ?_))); (case side2 => exact HC0.out); rintro e w46 ⟨rfl, hb⟩; refine ⟨_, rfl, ?_⟩; have n0_ := Aside0.mk (below_step (by repeat (first | (with_reducible first | exact HB.out | apply below_alloc | apply pw_below_drewN | apply below_drew1) | exact HB.out)) hb); clear HB; have HB := n0_; clear n0_; (try clear hb); (try clear hb2); (try clear hk); (try clear hi)))
      go_ret
      exact ⟨by first | rfl | (simp [errW_none, errW_some] <;> rfl) | (simp [*, errW_none, errW_some] <;> rfl), by repeat (first | (with_reducible first | exact HB.out | apply below_alloc | apply pw_below_drewN | apply below_drew1) | exact HB.out)⟩
 ·replace c5 := Bool.eq_false_iff.mpr c5
  subst c5
  have H1 : (some false) = some r := by rw [if_neg (show ¬ (false = true) by decide)] at H; exact H
  clear H
  have H := H1
  clear H1
  obtain rfl := Option.some.inj H
  go_enter Tryz.func5, Tryz.ntmps5
  go_wp2_with (first | ((with_reducible refine gate_callee (f := 7) rfl ?_); refine goesL_ (some 8) rfl rfl Tryz.func7 (by kernel_rfl) rfl #[] rfl (by (try simp only [List.map_toArray, List.map_cons, List.map_nil]); first | done | rfl | (simp only [List.length_drop, List.length_take]; rfl)) ?_; (with_reducible refine (transposallaw06_Awake.calls k  false _ ?side1 A4.out).mono ?_); (case side1 => exact Glob.below (by repeat (first | (with_reducible first | exact HB.out | apply below_alloc | apply pw_below_drewN | apply below_drew1) | exact HB.out)) HG.out); rintro e w47 ⟨rfl, hb⟩; refine ⟨_, rfl, ?_⟩; have n0_ := Aside0.mk (below_step (by repeat (first | (with_reducible first | exact HB.out | apply below_alloc | apply pw_below_drewN | apply below_drew1) | exact HB.out)) hb); clear HB; have HB := n0_; clear n0_; (try clear hb); (try clear hb2); (try clear hk); (try clear hi)))
  go_ret
  exact ⟨by first | rfl | (simp [errW_none, errW_some] <;> rfl) | (simp [*, errW_none, errW_some] <;> rfl), by repeat (first | (with_reducible first | exact HB.out | apply below_alloc | apply pw_below_drewN | apply below_drew1) | exact HB.out)⟩

/-- THE ONE PURE STATEMENT of transposallaw06_ChartChecks: yours. -/
def transposallaw06_ChartChecks.Pure : Prop := ∀ (l0 : List (S26)) (l1 : List (S46)) (a2 : Bool), l0.length ≤ maxLen → (∀ y, y ∈ l0 → ((Lit.int .u32 y.f0).wf = true ∧ y.f1.size ≤ 140737488351232 ∧ (Lit.int .u8 y.f2).wf = true ∧ (Lit.int .u32 y.f3).wf = true)) → l1.length ≤ maxLen → (∀ y, y ∈ l1 → ((Lit.int .u8 y.f0).wf = true ∧ (Lit.int .u8 y.f1).wf = true ∧ (Lit.int .u8 y.f2).wf = true ∧ (Lit.int .u8 y.f3).wf = true)) → ∃ k, transposallaw06_ChartChecks.f k l0 l1 a2 = some true

/-! ### transposallaw06_ChartSpoilt: function 6 -/
def transposallaw06_ChartSpoilt.j0 : Nat → List (S46) → Int → Int → Int → ByteArray → Bool → Option (Bool)
 | 0, _, _, _, _, _, _ => none
 | k + 1, x0, x1, x2, x3, x4, x27 => if x27 = true then (some true) else ((transposallaw06_Make.f k x0).bind fun t417 => (if (t417.length : Int) = 0 then (none) else (if (Int.tmod x2 4) = 0 then (if 0 ≤ (Int.tmod (wrap64 (x1)) (t417.length : Int)) then (if (Int.tmod (wrap64 (x1)) (t417.length : Int)) < (t417.length : Int) then ((some (t417.set ((Int.tmod (wrap64 (x1)) (t417.length : Int)) : Int).toNat (⟨x3, (rd_T26 t417 (Int.tmod (wrap64 (x1)) (t417.length : Int))).f1, (rd_T26 t417 (Int.tmod (wrap64 (x1)) (t417.length : Int))).f2, (rd_T26 t417 (Int.tmod (wrap64 (x1)) (t417.length : Int))).f3⟩ : S26) : List (S26))).bind fun y420 => ((chart_Chart_Check.f k y420).bind fun t421 => ((transposallaw06_Check.f k y420).bind fun t422 => (some (t421 == t422))))) else (none)) else (none)) else (if (Int.tmod x2 4) = 1 then (if 0 ≤ (Int.tmod (wrap64 (x1)) (t417.length : Int)) then (if (Int.tmod (wrap64 (x1)) (t417.length : Int)) < (t417.length : Int) then ((some (t417.set ((Int.tmod (wrap64 (x1)) (t417.length : Int)) : Int).toNat (⟨(rd_T26 t417 (Int.tmod (wrap64 (x1)) (t417.length : Int))).f0, x4, (rd_T26 t417 (Int.tmod (wrap64 (x1)) (t417.length : Int))).f2, (rd_T26 t417 (Int.tmod (wrap64 (x1)) (t417.length : Int))).f3⟩ : S26) : List (S26))).bind fun y423 => ((chart_Chart_Check.f k y423).bind fun t424 => ((transposallaw06_Check.f k y423).bind fun t425 => (some (t424 == t425))))) else (none)) else (none)) else (if (Int.tmod x2 4) = 2 then (if 0 ≤ (Int.tmod (wrap64 (x1)) (t417.length : Int)) then (if (Int.tmod (wrap64 (x1)) (t417.length : Int)) < (t417.length : Int) then ((some (t417.set ((Int.tmod (wrap64 (x1)) (t417.length : Int)) : Int).toNat (⟨(rd_T26 t417 (Int.tmod (wrap64 (x1)) (t417.length : Int))).f0, (rd_T26 t417 (Int.tmod (wrap64 (x1)) (t417.length : Int))).f1, (Int.tmod x3 7) % 256, (rd_T26 t417 (Int.tmod (wrap64 (x1)) (t417.length : Int))).f3⟩ : S26) : List (S26))).bind fun y426 => ((chart_Chart_Check.f k y426).bind fun t427 => ((transposallaw06_Check.f k y426).bind fun t428 => (some (t427 == t428))))) else (none)) else (none)) else (if 0 ≤ (Int.tmod (wrap64 (x1)) (t417.length : Int)) then (if (Int.tmod (wrap64 (x1)) (t417.length : Int)) < (t417.length : Int) then ((some (t417.set ((Int.tmod (wrap64 (x1)) (t417.length : Int)) : Int).toNat (⟨(rd_T26 t417 (Int.tmod (wrap64 (x1)) (t417.length : Int))).f0, (rd_T26 t417 (Int.tmod (wrap64 (x1)) (t417.length : Int))).f1, (rd_T26 t417 (Int.tmod (wrap64 (x1)) (t417.length : Int))).f2, x3⟩ : S26) : List (S26))).bind fun y429 => ((chart_Chart_Check.f k y429).bind fun t430 => ((transposallaw06_Check.f k y429).bind fun t431 => (some (t430 == t431))))) else (none)) else (none)))))))
def transposallaw06_ChartSpoilt.f (k : Nat) (l0 : List (S46)) (a1 : Int) (a2 : Int) (a3 : Int) (a4 : ByteArray) : Option (Bool) := (transposallaw06_Awake.f k).bind fun t416 => (if t416 = true then (if (l0.length : Int) = 0 then (transposallaw06_ChartSpoilt.j0 k l0 a1 a2 a3 a4 true) else (if (l0.length : Int) > 40 then (transposallaw06_ChartSpoilt.j0 k l0 a1 a2 a3 a4 true) else (transposallaw06_ChartSpoilt.j0 k l0 a1 a2 a3 a4 (decide ((a4.size : Int) > 60))))) else (some false))
theorem transposallaw06_ChartSpoilt.mono_l : ∀ k, (∀ y0 y1 y2 y3 y4 y5, LeO (transposallaw06_ChartSpoilt.j0 k y0 y1 y2 y3 y4 y5) (transposallaw06_ChartSpoilt.j0 (k + 1) y0 y1 y2 y3 y4 y5))
 | 0 => fun _ _ _ _ _ _ r h => by simp [transposallaw06_ChartSpoilt.j0] at h
 | k + 1 => by
  have ih0 := transposallaw06_ChartSpoilt.mono_l k
  ·intro y0 y1 y2 y3 y4 y5
   unfold transposallaw06_ChartSpoilt.j0
   repeat' first
   | (with_reducible exact ih0 _ _ _ _ _ _)
   | (with_reducible exact chart_Chart_Check.mono _ _)
   | (with_reducible exact transposallaw06_Awake.mono _)
   | (with_reducible exact transposallaw06_Check.mono _ _)
   | (with_reducible exact transposallaw06_Make.mono _ _)
   | (with_reducible exact LeO.refl _)
   | (with_reducible exact LeO.none _)
   | (with_reducible refine LeO.ite ?_ ?_)
   | (with_reducible refine LeO.bind ?_ (fun _ => ?_))
   | exact ih0 _ _ _ _ _ _
   | exact chart_Chart_Check.mono _ _
   | exact transposallaw06_Awake.mono _
   | exact transposallaw06_Check.mono _ _
   | exact transposallaw06_Make.mono _ _
   | exact LeO.none _
   | refine LeO.ite ?_ ?_
   | refine LeO.bind ?_ (fun _ => ?_)
theorem transposallaw06_ChartSpoilt.mono : ∀ a0 a1 a2 a3 a4 k, LeO (transposallaw06_ChartSpoilt.f k a0 a1 a2 a3 a4) (transposallaw06_ChartSpoilt.f (k + 1) a0 a1 a2 a3 a4) := by
 intro a0 a1 a2 a3 a4 k
 have ih0 := transposallaw06_ChartSpoilt.mono_l k
 unfold transposallaw06_ChartSpoilt.f
 repeat' first
   | (with_reducible exact ih0 _ _ _ _ _ _)
   | (with_reducible exact chart_Chart_Check.mono _ _)
   | (with_reducible exact transposallaw06_Awake.mono _)
   | (with_reducible exact transposallaw06_Check.mono _ _)
   | (with_reducible exact transposallaw06_Make.mono _ _)
   | (with_reducible exact LeO.refl _)
   | (with_reducible exact LeO.none _)
   | (with_reducible refine LeO.ite ?_ ?_)
   | (with_reducible refine LeO.bind ?_ (fun _ => ?_))
   | exact ih0 _ _ _ _ _ _
   | exact chart_Chart_Check.mono _ _
   | exact transposallaw06_Awake.mono _
   | exact transposallaw06_Check.mono _ _
   | exact transposallaw06_Make.mono _ _
   | exact LeO.none _
   | refine LeO.ite ?_ ?_
   | refine LeO.bind ?_ (fun _ => ?_)
set_option maxHeartbeats 8000000 in
set_option maxRecDepth 100000 in
theorem transposallaw06_ChartSpoilt.calls (k : Nat) (A0 : Option Addr) (c0 : Nat) (l0 : List (S46)) (a1 : Int) (a2 : Int) (a3 : Int) (a4 : ByteArray) (r : Bool) (w : World) (hr0 : Kd.C k46 w A0 l0.length l0) (hc0 : l0.length ≤ c0) (hG : Glob w) (h : transposallaw06_ChartSpoilt.f k l0 a1 a2 a3 a4 = some r) :
  Calls Tryz.prog 6 #[.slice A0 l0.length c0, .int .u8 a1, .int .u8 a2, .int .u32 a3, .string a4] w fun e w' => e = .returned (.bool r) ∧ Below w.heap.size w w' := by
 have HG := Aside0.mk hG
 clear hG
 have HR0 := Aside0.mk hr0
 have HC0 := Aside0.mk hc0
 clear hr0 hc0
 have HB := Aside0.mk (Below.refl w.heap.size w)
 have H : ((transposallaw06_Awake.f k).bind fun t416 => (if t416 = true then (if (l0.length : Int) = 0 then (transposallaw06_ChartSpoilt.j0 k l0 a1 a2 a3 a4 true) else (if (l0.length : Int) > 40 then (transposallaw06_ChartSpoilt.j0 k l0 a1 a2 a3 a4 true) else (transposallaw06_ChartSpoilt.j0 k l0 a1 a2 a3 a4 (decide ((a4.size : Int) > 60))))) else (some false))) = some r := h
 clear h
 replace H := Option.bind_eq_some_iff.mp H
 obtain ⟨t416, A60, H⟩ := H
 replace H : (if t416 = true then (if (l0.length : Int) = 0 then (transposallaw06_ChartSpoilt.j0 k l0 a1 a2 a3 a4 true) else (if (l0.length : Int) > 40 then (transposallaw06_ChartSpoilt.j0 k l0 a1 a2 a3 a4 true) else (transposallaw06_ChartSpoilt.j0 k l0 a1 a2 a3 a4 (decide ((a4.size : Int) > 60))))) else (some false)) = some r := H
 have A6 := Aside0.mk A60
 clear A60
 by_cases c7 : t416 = true
 ·subst c7
  have H1 : (if (l0.length : Int) = 0 then (transposallaw06_ChartSpoilt.j0 k l0 a1 a2 a3 a4 true) else (if (l0.length : Int) > 40 then (transposallaw06_ChartSpoilt.j0 k l0 a1 a2 a3 a4 true) else (transposallaw06_ChartSpoilt.j0 k l0 a1 a2 a3 a4 (decide ((a4.size : Int) > 60))))) = some r := by rw [if_pos rfl] at H; exact H
  clear H
  have H := H1
  clear H1
  have HC8 := Aside0.mk H
  clear H
  go_enter Tryz.func6, Tryz.ntmps6
  go_upto_region 3 with (first | ((with_reducible refine gate_callee (f := 7) rfl ?_); refine goesL_ (some 13) rfl rfl Tryz.func7 (by kernel_rfl) rfl #[] rfl (by (try simp only [List.map_toArray, List.map_cons, List.map_nil]); first | done | rfl | (simp only [List.length_drop, List.length_take]; rfl)) ?_; (with_reducible refine (transposallaw06_Awake.calls k  true _ ?side1 A6.out).mono ?_); (case side1 => exact Glob.below (by repeat (first | (with_reducible first | exact HB.out | apply below_alloc | apply pw_below_drewN | apply below_drew1) | exact HB.out)) HG.out); rintro e w9 ⟨rfl, hb⟩; refine ⟨_, rfl, ?_⟩; have n0_ := Aside0.mk (below_step (by repeat (first | (with_reducible first | exact HB.out | apply below_alloc | apply pw_below_drewN | apply below_drew1) | exact HB.out)) hb); clear HB; have HB := n0_; clear n0_; (try clear hb); (try clear hb2); (try clear hk); (try clear hi)))
  (try simp only [Act.put, List.setIfInBounds_toArray, List.set_cons_zero, List.set_cons_succ])
  go_cut [27] (fun v27 wc => ∃ (kq : Nat) (x27_7 : Bool), v27 = .bool x27_7 ∧ Aside0 (transposallaw06_ChartSpoilt.j0 kq l0 a1 a2 a3 a4 x27_7 = some r) ∧ Aside0 (kq ≤ k) ∧ Aside0 (Below w.heap.size w wc))
  case first =>
   have H := HC8.out
   clear HC8
   by_cases c10 : (l0.length : Int) = 0
   ·rw [if_pos c10] at H
    have c10b0 : ((l0.length : Int) == 0) = true := beq_iff_eq.mpr c10
    have c10b1 : ((l0.length : Int) != 0) = false := bne_eq_false_iff_eq.mpr c10
    clear c10
    (first | rw [c10b0] | (simp only [i64_w, i32_w]; rw [c10b0]) | skip)
    have H' := Aside0.mk H
    clear H
    go_wp2
    go_meet
    case rel => exact ⟨_, (true), (by first | rfl | (simp; done) | (simp [*]; done)), H', ⟨by first | omega | exact Nat.le_refl _⟩, ⟨by repeat (first | (with_reducible first | exact HB.out | apply below_alloc | apply pw_below_drewN | apply below_drew1) | exact HB.out)⟩⟩
   ·rw [if_neg c10] at H
    have c10b0 : ((l0.length : Int) == 0) = false := beq_eq_false_iff_ne.mpr c10
    have c10b1 : ((l0.length : Int) != 0) = true := bne_iff_ne.mpr c10
    have c10b2 : ¬ (l0 = []) := fun h_ => c10 (by rw [h_]; rfl)
    (first | rw [c10b0] | (simp only [i64_w, i32_w]; rw [c10b0]) | skip)
    by_cases c11 : (l0.length : Int) > 40
    ·rw [if_pos c11] at H
     have c11b0 : decide (40 < (l0.length : Int)) = true := decide_eq_true c11
     have c11b1 : decide (40 < l0.length) = true := decide_eq_true (by omega)
     clear c11
     have H' := Aside0.mk H
     clear H
     go_wp2
     go_meet
     case rel => exact ⟨_, (true), (by first | rfl | (simp; done) | (simp [*]; done)), H', ⟨by first | omega | exact Nat.le_refl _⟩, ⟨by repeat (first | (with_reducible first | exact HB.out | apply below_alloc | apply pw_below_drewN | apply below_drew1) | exact HB.out)⟩⟩
    ·rw [if_neg c11] at H
     have c11b0 : decide (40 < (l0.length : Int)) = false := decide_eq_false c11
     have c11b1 : decide (40 < l0.length) = false := decide_eq_false (by omega)
     clear c11
     have H' := Aside0.mk H
     clear H
     go_wp2
     go_meet
     case rel => exact ⟨_, (decide ((a4.size : Int) > 60)), (by first | rfl | (simp; done) | (simp [*]; done)), H', ⟨by first | omega | exact Nat.le_refl _⟩, ⟨by repeat (first | (with_reducible first | exact HB.out | apply below_alloc | apply pw_below_drewN | apply below_drew1) | exact HB.out)⟩⟩
  case rest =>
   clear HC8
   try clear c1
   try clear p2
   try clear c6
   try clear c7
   try clear c10
   try clear c10b0
   try clear c10b1
   try clear c10b2
   try clear c11
   try clear c11b0
   try clear c11b1
   obtain ⟨kq, x27_7, rfl, HA, HJ7, HB⟩ := hcut
   cases kq with
   | zero => exact absurd HA.out (by simp [transposallaw06_ChartSpoilt.j0])
   | succ kj7 =>
    have H := HA.out
    clear HA
    simp only [transposallaw06_ChartSpoilt.j0] at H
    by_cases c12 : x27_7 = true
    ·subst c12
     have H1 : (some true) = some r := by rw [if_pos rfl] at H; exact H
     clear H
     have H := H1
     clear H1
     obtain rfl := Option.some.inj H
     go_wp2
     go_ret
     exact ⟨by first | rfl | (simp [errW_none, errW_some] <;> rfl) | (simp [*, errW_none, errW_some] <;> rfl), by repeat (first | (with_reducible first | exact HB.out | apply below_alloc | apply pw_below_drewN | apply below_drew1) | exact HB.out)⟩
    ·replace c12 := Bool.eq_false_iff.mpr c12
     subst c12
     have H1 : ((transposallaw06_Make.f kj7 l0).bind fun t417 => (if (t417.length : Int) = 0 then (none) else (if (Int.tmod a2 4) = 0 then (if 0 ≤ (Int.tmod (wrap64 (a1)) (t417.length : Int)) then (if (Int.tmod (wrap64 (a1)) (t417.length : Int)) < (t417.length : Int) then ((some (t417.set ((Int.tmod (wrap64 (a1)) (t417.length : Int)) : Int).toNat (⟨a3, (rd_T26 t417 (Int.tmod (wrap64 (a1)) (t417.length : Int))).f1, (rd_T26 t417 (Int.tmod (wrap64 (a1)) (t417.length : Int))).f2, (rd_T26 t417 (Int.tmod (wrap64 (a1)) (t417.length : Int))).f3⟩ : S26) : List (S26))).bind fun y420 => ((chart_Chart_Check.f kj7 y420).bind fun t421 => ((transposallaw06_Check.f kj7 y420).bind fun t422 => (some (t421 == t422))))) else (none)) else (none)) else (if (Int.tmod a2 4) = 1 then (if 0 ≤ (Int.tmod (wrap64 (a1)) (t417.length : Int)) then (if (Int.tmod (wrap64 (a1)) (t417.length : Int)) < (t417.length : Int) then ((some (t417.set ((Int.tmod (wrap64 (a1)) (t417.length : Int)) : Int).toNat (⟨(rd_T26 t417 (Int.tmod (wrap64 (a1)) (t417.length : Int))).f0, a4, (rd_T26 t417 (Int.tmod (wrap64 (a1)) (t417.length : Int))).f2, (rd_T26 t417 (Int.tmod (wrap64 (a1)) (t417.length : Int))).f3⟩ : S26) : List (S26))).bind fun y423 => ((chart_Chart_Check.f kj7 y423).bind fun t424 => ((transposallaw06_Check.f kj7 y423).bind fun t425 => (some (t424 == t425))))) else (none)) else (none)) else (if (Int.tmod a2 4) = 2 then (if 0 ≤ (Int.tmod (wrap64 (a1)) (t417.length : Int)) then (if (Int.tmod (wrap64 (a1)) (t417.length : Int)) < (t417.length : Int) then ((some (t417.set ((Int.tmod (wrap64 (a1)) (t417.length : Int)) : Int).toNat (⟨(rd_T26 t417 (Int.tmod (wrap64 (a1)) (t417.length : Int))).f0, (rd_T26 t417 (Int.tmod (wrap64 (a1)) (t417.length : Int))).f1, (Int.tmod a3 7) % 256, (rd_T26 t417 (Int.tmod (wrap64 (a1)) (t417.length : Int))).f3⟩ : S26) : List (S26))).bind fun y426 => ((chart_Chart_Check.f kj7 y426).bind fun t427 => ((transposallaw06_Check.f kj7 y426).bind fun t428 => (some (t427 == t428))))) else (none)) else (none)) else (if 0 ≤ (Int.tmod (wrap64 (a1)) (t417.length : Int)) then (if (Int.tmod (wrap64 (a1)) (t417.length : Int)) < (t417.length : Int) then ((some (t417.set ((Int.tmod (wrap64 (a1)) (t417.length : Int)) : Int).toNat (⟨(rd_T26 t417 (Int.tmod (wrap64 (a1)) (t417.length : Int))).f0, (rd_T26 t417 (Int.tmod (wrap64 (a1)) (t417.length : Int))).f1, (rd_T26 t417 (Int.tmod (wrap64 (a1)) (t417.length : Int))).f2, a3⟩ : S26) : List (S26))).bind fun y429 => ((chart_Chart_Check.f kj7 y429).bind fun t430 => ((transposallaw06_Check.f kj7 y429).bind fun t431 => (some (t430 == t431))))) else (none)) else (none))))))) = some r := by rw [if_neg (show ¬ (false = true) by decide)] at H; exact H
     clear H
     have H := H1
     clear H1
     replace H := Option.bind_eq_some_iff.mp H
     obtain ⟨t417, A130, H⟩ := H
     replace H : (if (t417.length : Int) = 0 then (none) else (if (Int.tmod a2 4) = 0 then (if 0 ≤ (Int.tmod (wrap64 (a1)) (t417.length : Int)) then (if (Int.tmod (wrap64 (a1)) (t417.length : Int)) < (t417.length : Int) then ((some (t417.set ((Int.tmod (wrap64 (a1)) (t417.length : Int)) : Int).toNat (⟨a3, (rd_T26 t417 (Int.tmod (wrap64 (a1)) (t417.length : Int))).f1, (rd_T26 t417 (Int.tmod (wrap64 (a1)) (t417.length : Int))).f2, (rd_T26 t417 (Int.tmod (wrap64 (a1)) (t417.length : Int))).f3⟩ : S26) : List (S26))).bind fun y420 => ((chart_Chart_Check.f kj7 y420).bind fun t421 => ((transposallaw06_Check.f kj7 y420).bind fun t422 => (some (t421 == t422))))) else (none)) else (none)) else (if (Int.tmod a2 4) = 1 then (if 0 ≤ (Int.tmod (wrap64 (a1)) (t417.length : Int)) then (if (Int.tmod (wrap64 (a1)) (t417.length : Int)) < (t417.length : Int) then ((some (t417.set ((Int.tmod (wrap64 (a1)) (t417.length : Int)) : Int).toNat (⟨(rd_T26 t417 (Int.tmod (wrap64 (a1)) (t417.length : Int))).f0, a4, (rd_T26 t417 (Int.tmod (wrap64 (a1)) (t417.length : Int))).f2, (rd_T26 t417 (Int.tmod (wrap64 (a1)) (t417.length : Int))).f3⟩ : S26) : List (S26))).bind fun y423 => ((chart_Chart_Check.f kj7 y423).bind fun t424 => ((transposallaw06_Check.f kj7 y423).bind fun t425 => (some (t424 == t425))))) else (none)) else (none)) else (if (Int.tmod a2 4) = 2 then (if 0 ≤ (Int.tmod (wrap64 (a1)) (t417.length : Int)) then (if (Int.tmod (wrap64 (a1)) (t417.length : Int)) < (t417.length : Int) then ((some (t417.set ((Int.tmod (wrap64 (a1)) (t417.length : Int)) : Int).toNat (⟨(rd_T26 t417 (Int.tmod (wrap64 (a1)) (t417.length : Int))).f0, (rd_T26 t417 (Int.tmod (wrap64 (a1)) (t417.length : Int))).f1, (Int.tmod a3 7) % 256, (rd_T26 t417 (Int.tmod (wrap64 (a1)) (t417.length : Int))).f3⟩ : S26) : List (S26))).bind fun y426 => ((chart_Chart_Check.f kj7 y426).bind fun t427 => ((transposallaw06_Check.f kj7 y426).bind fun t428 => (some (t427 == t428))))) else (none)) else (none)) else (if 0 ≤ (Int.tmod (wrap64 (a1)) (t417.length : Int)) then (if (Int.tmod (wrap64 (a1)) (t417.length : Int)) < (t417.length : Int) then ((some (t417.set ((Int.tmod (wrap64 (a1)) (t417.length : Int)) : Int).toNat (⟨(rd_T26 t417 (Int.tmod (wrap64 (a1)) (t417.length : Int))).f0, (rd_T26 t417 (Int.tmod (wrap64 (a1)) (t417.length : Int))).f1, (rd_T26 t417 (Int.tmod (wrap64 (a1)) (t417.length : Int))).f2, a3⟩ : S26) : List (S26))).bind fun y429 => ((chart_Chart_Check.f kj7 y429).bind fun t430 => ((transposallaw06_Check.f kj7 y429).bind fun t431 => (some (t430 == t431))))) else (none)) else (none)))))) = some r := H
     have A13 := Aside0.mk A130
     clear A130
     by_cases c14 : (t417.length : Int) = 0
     ·rw [if_pos c14] at H
      exact absurd H (by simp)
     ·rw [if_neg c14] at H
      have c14b0 : ((t417.length : Int) == 0) = false := beq_eq_false_iff_ne.mpr c14
      have c14b1 : ((t417.length : Int) != 0) = true := bne_iff_ne.mpr c14
      have c14b2 : ¬ (t417 = []) := fun h_ => c14 (by rw [h_]; rfl)
      by_cases c15 : (Int.tmod a2 4) = 0
      ·rw [if_pos c15] at H
       have c15b0 : ((Int.tmod a2 4) == 0) = true := beq_iff_eq.mpr c15
       have c15b1 : ((Int.tmod a2 4) != 0) = false := bne_eq_false_iff_eq.mpr c15
       clear c15
       obtain ⟨ji16, hji16⟩ : ∃ j_ : Int, (Int.tmod (wrap64 (a1)) (t417.length : Int)) = j_ := ⟨_, rfl⟩
       replace H : (if 0 ≤ (ji16) then (if (ji16) < (t417.length : Int) then ((some (t417.set ((ji16) : Int).toNat (⟨a3, (rd_T26 t417 (ji16)).f1, (rd_T26 t417 (ji16)).f2, (rd_T26 t417 (ji16)).f3⟩ : S26) : List (S26))).bind fun y420 => ((chart_Chart_Check.f kj7 y420).bind fun t421 => ((transposallaw06_Check.f kj7 y420).bind fun t422 => (some (t421 == t422))))) else (none)) else (none)) = some r := by first | (rw [hji16] at H; exact H) | (simp only [hji16] at H ⊢; exact H)
       (try rw [hji16] at A13)
       by_cases c17 : 0 ≤ (ji16)
       ·rw [if_pos c17] at H
        have c17b0 : decide (0 ≤ (ji16)) = true := decide_eq_true c17
        clear c17
        by_cases c18 : (ji16) < (t417.length : Int)
        ·rw [if_pos c18] at H
         have c18b0 : decide ((ji16) < (t417.length : Int)) = true := decide_eq_true c18
         clear c18
         obtain ⟨y420, hy420⟩ : ∃ y_ : List (S26), y_ = (t417.set ((ji16) : Int).toNat (⟨a3, (rd_T26 t417 (ji16)).f1, (rd_T26 t417 (ji16)).f2, (rd_T26 t417 (ji16)).f3⟩ : S26)) := ⟨_, rfl⟩
         replace H : ((chart_Chart_Check.f kj7 y420).bind fun t421 => ((transposallaw06_Check.f kj7 y420).bind fun t422 => (some (t421 == t422)))) = some r := by first | (rw [hy420]; with_reducible exact H) | (have H2_ := (Option.bind_some _ _).symm.trans H; rw [hy420]; with_reducible exact H2_) | (have H2_ := (Option.bind_some _ _).symm.trans H; with_reducible exact H2_) | with_reducible exact H | (rw [hy420]; exact H) | exact H
         have Ny420 := Aside0.mk hy420
         clear hy420
         replace H := Option.bind_eq_some_iff.mp H
         obtain ⟨t421, A200, H⟩ := H
         replace H : ((transposallaw06_Check.f kj7 y420).bind fun t422 => (some (t421 == t422))) = some r := H
         have A20 := Aside0.mk A200
         clear A200
         replace H := Option.bind_eq_some_iff.mp H
         obtain ⟨t422, A210, H⟩ := H
         replace H : (some (t421 == t422)) = some r := H
         have A21 := Aside0.mk A210
         clear A210
         obtain rfl := Option.some.inj H
         go_wp2_with (first | ((with_reducible refine gate_callee (f := 8) rfl ?_); refine goesL_ (some 29) rfl rfl Tryz.func8 (by kernel_rfl) rfl #[.slice A0 l0.length c0] rfl (by (try simp only [List.map_toArray, List.map_cons, List.map_nil]); first | done | rfl | (simp only [List.length_drop, List.length_take]; rfl)) ?_; (with_reducible refine (transposallaw06_Make.calls kj7 _ _ l0 t417 _ ?side1 ?side2 A13.out).mono ?_); (case side1 => repeat (first | exact (Kd.C_below HR0.out HB.out) | (with_reducible refine Kd.C_alloc ?_ _) | (with_reducible refine Kd.C_drewN ?_ _) | (with_reducible refine Kd.C_drew ?_))); (case side2 => exact HC0.out); rintro e w22 ⟨v418, rfl, ho0, hb⟩; refine ⟨_, rfl, ?_⟩; have n0_ := Aside0.mk (Kd.R_lower ho0 (below_size (by repeat (first | (with_reducible first | exact HB.out | apply below_alloc | apply pw_below_drewN | apply below_drew1) | exact HB.out)))); have n1_ := Aside0.mk (below_step (by repeat (first | (with_reducible first | exact HB.out | apply below_alloc | apply pw_below_drewN | apply below_drew1) | exact HB.out)) hb); clear HB; have HO419 := n0_; have HB := n1_; clear n0_ n1_; (try clear hb); (try clear hb2); (try clear hk); (try clear hi); (try clear ho0); obtain ⟨Ao23, co23, eo23⟩ := Kd.R_slice HO419.out; subst eo23; have p19 : 0 ≤ ((ji16) : Int) := of_decide_eq_true (by first | (with_reducible assumption) | assumption); have q19 : ((ji16) : Int) < ((t417.length : Int) : Int) := of_decide_eq_true (by first | (with_reducible assumption) | assumption); obtain ⟨go19, co19, eo19, gb19, gl19, cl19, HG19⟩ := Kd.R_form HO419.out (by omega); (first | cases eo19 | (injection eo19 with ea_ en_ ec_; (first | subst ea_ | (injection ea_ with ea_; subst ea_)); subst ec_; clear en_)); have GB19 := Aside0.mk gb19; have GG19 := Aside0.mk HG19; clear gb19 gl19 HG19; obtain ⟨ce19, hcl19, hM19, hcc19, hfr19⟩ := Kd.R_elem HO419.out z26 ((ji16) : Int) p19 q19; obtain rfl := k26_openM hM19; have hx19_0 : w22.cell? ⟨go19, ((ji16) : Int).toNat * 4, none⟩ = some (.int .u32 ((rd_T26 t417 (ji16)).f0)) := hcc19 0 _ rfl; have hx19_1 : w22.cell? ⟨go19, ((ji16) : Int).toNat * 4 + 1, none⟩ = some (.string ((rd_T26 t417 (ji16)).f1)) := hcc19 1 _ rfl; have hx19_2 : w22.cell? ⟨go19, ((ji16) : Int).toNat * 4 + 2, none⟩ = some (.int .u8 ((rd_T26 t417 (ji16)).f2)) := hcc19 2 _ rfl; have hx19_3 : w22.cell? ⟨go19, ((ji16) : Int).toNat * 4 + 3, none⟩ = some (.int .u32 ((rd_T26 t417 (ji16)).f3)) := hcc19 3 _ rfl; have hf19_0 : w22.frozen? ⟨go19, ((ji16) : Int).toNat * 4, none⟩ = false := hfr19 0; have hf19_1 : w22.frozen? ⟨go19, ((ji16) : Int).toNat * 4 + 1, none⟩ = false := hfr19 1; have hf19_2 : w22.frozen? ⟨go19, ((ji16) : Int).toNat * 4 + 2, none⟩ = false := hfr19 2; have hf19_3 : w22.frozen? ⟨go19, ((ji16) : Int).toNat * 4 + 3, none⟩ = false := hfr19 3; clear hcl19 hcc19 hfr19 hM19; replace p19 := eq_true p19; replace q19 := eq_true q19; have HX24 := Aside0.mk (show Kd.R k26 26 w22 w.heap.size (fun _ => True) (.slice (some ⟨go19, 0, none⟩) t417.length co23) t417 from (by (with_reducible repeat (first | apply Kd.R_alloc | apply Kd.R_drewN | apply Kd.R_drew)); exact HO419.out)); obtain ⟨ce24, hcl24, hM24, hcc24, hfr24⟩ := Kd.R_elem HX24.out z26 ((ji16) : Int) (of_decide_eq_true (by first | (with_reducible assumption) | assumption)) (by have h_ : ((ji16) : Int) < ((t417.length : Int) : Int) := of_decide_eq_true (by first | (with_reducible assumption) | assumption); first | exact h_ | (have e_ := (Kd.R_reads' HO419.out).1; omega) | simpa using h_); obtain rfl := k26_openM hM24; have HP24 := Kd.R_seg HX24.out ((ji16) : Int) (of_decide_eq_true (by first | (with_reducible assumption) | assumption)) (by have h_ : ((ji16) : Int) < ((t417.length : Int) : Int) := of_decide_eq_true (by first | (with_reducible assumption) | assumption); first | exact h_ | (have e_ := (Kd.R_reads' HO419.out).1; omega) | simpa using h_) (seg := [.int .u32 a3]) (j := 0) hcl24 hcc24 (show 1 ≤ 4 from by decide) (x' := (⟨a3, (rd_T26 t417 (ji16)).f1, (rd_T26 t417 (ji16)).f2, (rd_T26 t417 (ji16)).f3⟩ : S26)) (k26_mkM _ _ _ (⟨a3, (rd_T26 t417 (ji16)).f1, (rd_T26 t417 (ji16)).f2, (rd_T26 t417 (ji16)).f3⟩ : S26) ) (fun _ hk => hk); have hx24_0 := hcc24 0 _ rfl; (try simp only [show (k26).sz = 4 from rfl, Nat.mul_one, Nat.add_zero] at hx24_0); have hf24_0 := hfr24 0; (try simp only [show (k26).sz = 4 from rfl, Nat.mul_one, Nat.add_zero] at hf24_0); clear hcl24 hcc24 hfr24 hM24) | ((with_reducible refine gate_store (t := 23) (p := 48) rfl ?_); refine store_event (t := 23) (p := 48) (v := ?vo_w25) (w1 := (w22.setCell ⟨go19, ((ji16) : Int).toNat * 4, none⟩ (.int .u32 a3))) ?hg ?ho ?hn ?hr ?_; (case ho => rfl); (case hg => rfl); (case hn => rfl); (case hr => first | (go_simp; done) | (go_simp; rfl)); intro w25 hw; have hg : w22.grownBy w25 (some go19) := (by rw [hw]; exact HP24.2); have hp_ : Kd.R k26 26 w25 w.heap.size (fun _ => True) (.slice (some ⟨go19, 0, none⟩) t417.length co23) y420 := (by rw [hw, Ny420.out]; exact HP24.1); clear HP24; have n0_ := Aside0.mk (hp_); have n1_ := Aside0.mk ((by rw [hw]; exact below_set (HB.out) GB19.out : Below w.heap.size w w25)); clear HO419; clear HB; have HO419 := n0_; have HB := n1_; clear n0_ n1_; clear hg hw hp_) | ((with_reducible refine gate_callee (f := 15) rfl ?_); refine goesL_ (some 66) rfl rfl Tryz.func15 (by kernel_rfl) rfl #[.slice (some ⟨go19, 0, none⟩) y420.length co23] rfl (by (try simp only [List.map_toArray, List.map_cons, List.map_nil]); first | done | (rw [show y420.length = t417.length from (Kd.R_reads' HO419.out).1.symm] <;> rfl) | rfl | (simp only [List.length_drop, List.length_take]; rfl)) ?_; (with_reducible refine (chart_Chart_Check.calls kj7 _ _ y420 t421 _ ?side1 ?side2 A20.out).mono ?_); (case side1 => repeat (first | exact (Kd.R_reads' HO419.out).2.2 | (with_reducible refine Kd.C_alloc ?_ _) | (with_reducible refine Kd.C_drewN ?_ _) | (with_reducible refine Kd.C_drew ?_))); (case side2 => rw [show y420.length = t417.length from (Kd.R_reads' HO419.out).1.symm]; exact (Kd.R_reads' HO419.out).2.1); rintro e w26 ⟨rfl, hb⟩; refine ⟨_, rfl, ?_⟩; have n0_ := Aside0.mk (Kd.R_below (by (with_reducible repeat (first | apply Kd.R_alloc | apply Kd.R_drewN | apply Kd.R_drew)); exact HO419.out) hb); have n1_ := Aside0.mk (below_step (by repeat (first | (with_reducible first | exact HB.out | apply below_alloc | apply pw_below_drewN | apply below_drew1) | exact HB.out)) hb); clear HO419; clear HB; have HO419 := n0_; have HB := n1_; clear n0_ n1_; (try clear hb); (try clear hb2); (try clear hk); (try clear hi)) | ((with_reducible refine gate_callee (f := 16) rfl ?_); refine goesL_ (some 68) rfl rfl Tryz.func16 (by kernel_rfl) rfl #[.slice (some ⟨go19, 0, none⟩) y420.length co23] rfl (by (try simp only [List.map_toArray, List.map_cons, List.map_nil]); first | done | (rw [show y420.length = t417.length from (Kd.R_reads' HO419.out).1.symm] <;> rfl) | rfl | (simp only [List.length_drop, List.length_take]; rfl)) ?_; (with_reducible refine (transposallaw06_Check.calls kj7 _ _ y420 t422 _ ?side1 ?side2 A21.out).mono ?_); (case side1 => repeat (first | exact (Kd.R_reads' HO419.out).2.2 | (with_reducible refine Kd.C_alloc ?_ _) | (with_reducible refine Kd.C_drewN ?_ _) | (with_reducible refine Kd.C_drew ?_))); (case side2 => rw [show y420.length = t417.length from (Kd.R_reads' HO419.out).1.symm]; exact (Kd.R_reads' HO419.out).2.1); rintro e w27 ⟨rfl, hb⟩; refine ⟨_, rfl, ?_⟩; have n0_ := Aside0.mk (Kd.R_below (by (with_reducible repeat (first | apply Kd.R_alloc | apply Kd.R_drewN | apply Kd.R_drew)); exact HO419.out) hb); have n1_ := Aside0.mk (below_step (by repeat (first | (with_reducible first | exact HB.out | apply below_alloc | apply pw_below_drewN | apply below_drew1) | exact HB.out)) hb); clear HO419; clear HB; have HO419 := n0_; have HB := n1_; clear n0_ n1_; (try clear hb); (try clear hb2); (try clear hk); (try clear hi)))
         go_ret
         exact ⟨by first | rfl | (simp [errW_none, errW_some] <;> rfl) | (simp only [← hji16]; first | rfl | (simp [errW_none, errW_some] <;> rfl)) | (simp [*, errW_none, errW_some] <;> rfl), by repeat (first | (with_reducible first | exact HB.out | apply below_alloc | apply pw_below_drewN | apply below_drew1) | exact HB.out)⟩
        ·rw [if_neg c18] at H
         exact absurd H (by simp)
       ·rw [if_neg c17] at H
        exact absurd H (by simp)
      ·rw [if_neg c15] at H
       have c15b0 : ((Int.tmod a2 4) == 0) = false := beq_eq_false_iff_ne.mpr c15
       have c15b1 : ((Int.tmod a2 4) != 0) = true := bne_iff_ne.mpr c15
       by_cases c28 : (Int.tmod a2 4) = 1
       ·rw [if_pos c28] at H
        have c28b0 : ((Int.tmod a2 4) == 1) = true := beq_iff_eq.mpr c28
        have c28b1 : ((Int.tmod a2 4) != 1) = false := bne_eq_false_iff_eq.mpr c28
        clear c28
        obtain ⟨ji29, hji29⟩ : ∃ j_ : Int, (Int.tmod (wrap64 (a1)) (t417.length : Int)) = j_ := ⟨_, rfl⟩
        replace H : (if 0 ≤ (ji29) then (if (ji29) < (t417.length : Int) then ((some (t417.set ((ji29) : Int).toNat (⟨(rd_T26 t417 (ji29)).f0, a4, (rd_T26 t417 (ji29)).f2, (rd_T26 t417 (ji29)).f3⟩ : S26) : List (S26))).bind fun y423 => ((chart_Chart_Check.f kj7 y423).bind fun t424 => ((transposallaw06_Check.f kj7 y423).bind fun t425 => (some (t424 == t425))))) else (none)) else (none)) = some r := by first | (rw [hji29] at H; exact H) | (simp only [hji29] at H ⊢; exact H)
        (try rw [hji29] at A13)
        by_cases c30 : 0 ≤ (ji29)
        ·rw [if_pos c30] at H
         have c30b0 : decide (0 ≤ (ji29)) = true := decide_eq_true c30
         clear c30
         by_cases c31 : (ji29) < (t417.length : Int)
         ·rw [if_pos c31] at H
          have c31b0 : decide ((ji29) < (t417.length : Int)) = true := decide_eq_true c31
          clear c31
          obtain ⟨y423, hy423⟩ : ∃ y_ : List (S26), y_ = (t417.set ((ji29) : Int).toNat (⟨(rd_T26 t417 (ji29)).f0, a4, (rd_T26 t417 (ji29)).f2, (rd_T26 t417 (ji29)).f3⟩ : S26)) := ⟨_, rfl⟩
          replace H : ((chart_Chart_Check.f kj7 y423).bind fun t424 => ((transposallaw06_Check.f kj7 y423).bind fun t425 => (some (t424 == t425)))) = some r := by first | (rw [hy423]; with_reducible exact H) | (have H2_ := (Option.bind_some _ _).symm.trans H; rw [hy423]; with_reducible exact H2_) | (have H2_ := (Option.bind_some _ _).symm.trans H; with_reducible exact H2_) | with_reducible exact H | (rw [hy423]; exact H) | exact H
          have Ny423 := Aside0.mk hy423
          clear hy423
          replace H := Option.bind_eq_some_iff.mp H
          obtain ⟨t424, A330, H⟩ := H
          replace H : ((transposallaw06_Check.f kj7 y423).bind fun t425 => (some (t424 == t425))) = some r := H
          have A33 := Aside0.mk A330
          clear A330
          replace H := Option.bind_eq_some_iff.mp H
          obtain ⟨t425, A340, H⟩ := H
          replace H : (some (t424 == t425)) = some r := H
          have A34 := Aside0.mk A340
          clear A340
          obtain rfl := Option.some.inj H
          go_wp2_with (first | ((with_reducible refine gate_callee (f := 8) rfl ?_); refine goesL_ (some 29) rfl rfl Tryz.func8 (by kernel_rfl) rfl #[.slice A0 l0.length c0] rfl (by (try simp only [List.map_toArray, List.map_cons, List.map_nil]); first | done | rfl | (simp only [List.length_drop, List.length_take]; rfl)) ?_; (with_reducible refine (transposallaw06_Make.calls kj7 _ _ l0 t417 _ ?side1 ?side2 A13.out).mono ?_); (case side1 => repeat (first | exact (Kd.C_below HR0.out HB.out) | (with_reducible refine Kd.C_alloc ?_ _) | (with_reducible refine Kd.C_drewN ?_ _) | (with_reducible refine Kd.C_drew ?_))); (case side2 => exact HC0.out); rintro e w35 ⟨v418, rfl, ho0, hb⟩; refine ⟨_, rfl, ?_⟩; have n0_ := Aside0.mk (Kd.R_lower ho0 (below_size (by repeat (first | (with_reducible first | exact HB.out | apply below_alloc | apply pw_below_drewN | apply below_drew1) | exact HB.out)))); have n1_ := Aside0.mk (below_step (by repeat (first | (with_reducible first | exact HB.out | apply below_alloc | apply pw_below_drewN | apply below_drew1) | exact HB.out)) hb); clear HB; have HO419 := n0_; have HB := n1_; clear n0_ n1_; (try clear hb); (try clear hb2); (try clear hk); (try clear hi); (try clear ho0); obtain ⟨Ao36, co36, eo36⟩ := Kd.R_slice HO419.out; subst eo36; have p32 : 0 ≤ ((ji29) : Int) := of_decide_eq_true (by first | (with_reducible assumption) | assumption); have q32 : ((ji29) : Int) < ((t417.length : Int) : Int) := of_decide_eq_true (by first | (with_reducible assumption) | assumption); obtain ⟨go32, co32, eo32, gb32, gl32, cl32, HG32⟩ := Kd.R_form HO419.out (by omega); (first | cases eo32 | (injection eo32 with ea_ en_ ec_; (first | subst ea_ | (injection ea_ with ea_; subst ea_)); subst ec_; clear en_)); have GB32 := Aside0.mk gb32; have GG32 := Aside0.mk HG32; clear gb32 gl32 HG32; obtain ⟨ce32, hcl32, hM32, hcc32, hfr32⟩ := Kd.R_elem HO419.out z26 ((ji29) : Int) p32 q32; obtain rfl := k26_openM hM32; have hx32_0 : w35.cell? ⟨go32, ((ji29) : Int).toNat * 4, none⟩ = some (.int .u32 ((rd_T26 t417 (ji29)).f0)) := hcc32 0 _ rfl; have hx32_1 : w35.cell? ⟨go32, ((ji29) : Int).toNat * 4 + 1, none⟩ = some (.string ((rd_T26 t417 (ji29)).f1)) := hcc32 1 _ rfl; have hx32_2 : w35.cell? ⟨go32, ((ji29) : Int).toNat * 4 + 2, none⟩ = some (.int .u8 ((rd_T26 t417 (ji29)).f2)) := hcc32 2 _ rfl; have hx32_3 : w35.cell? ⟨go32, ((ji29) : Int).toNat * 4 + 3, none⟩ = some (.int .u32 ((rd_T26 t417 (ji29)).f3)) := hcc32 3 _ rfl; have hf32_0 : w35.frozen? ⟨go32, ((ji29) : Int).toNat * 4, none⟩ = false := hfr32 0; have hf32_1 : w35.frozen? ⟨go32, ((ji29) : Int).toNat * 4 + 1, none⟩ = false := hfr32 1; have hf32_2 : w35.frozen? ⟨go32, ((ji29) : Int).toNat * 4 + 2, none⟩ = false := hfr32 2; have hf32_3 : w35.frozen? ⟨go32, ((ji29) : Int).toNat * 4 + 3, none⟩ = false := hfr32 3; clear hcl32 hcc32 hfr32 hM32; replace p32 := eq_true p32; replace q32 := eq_true q32; have HX37 := Aside0.mk (show Kd.R k26 26 w35 w.heap.size (fun _ => True) (.slice (some ⟨go32, 0, none⟩) t417.length co36) t417 from (by (with_reducible repeat (first | apply Kd.R_alloc | apply Kd.R_drewN | apply Kd.R_drew)); exact HO419.out)); obtain ⟨ce37, hcl37, hM37, hcc37, hfr37⟩ := Kd.R_elem HX37.out z26 ((ji29) : Int) (of_decide_eq_true (by first | (with_reducible assumption) | assumption)) (by have h_ : ((ji29) : Int) < ((t417.length : Int) : Int) := of_decide_eq_true (by first | (with_reducible assumption) | assumption); first | exact h_ | (have e_ := (Kd.R_reads' HO419.out).1; omega) | simpa using h_); obtain rfl := k26_openM hM37; have HP37 := Kd.R_seg HX37.out ((ji29) : Int) (of_decide_eq_true (by first | (with_reducible assumption) | assumption)) (by have h_ : ((ji29) : Int) < ((t417.length : Int) : Int) := of_decide_eq_true (by first | (with_reducible assumption) | assumption); first | exact h_ | (have e_ := (Kd.R_reads' HO419.out).1; omega) | simpa using h_) (seg := [.string a4]) (j := 1) hcl37 hcc37 (show 2 ≤ 4 from by decide) (x' := (⟨(rd_T26 t417 (ji29)).f0, a4, (rd_T26 t417 (ji29)).f2, (rd_T26 t417 (ji29)).f3⟩ : S26)) (k26_mkM _ _ _ (⟨(rd_T26 t417 (ji29)).f0, a4, (rd_T26 t417 (ji29)).f2, (rd_T26 t417 (ji29)).f3⟩ : S26) ) (fun _ hk => hk); have hx37_1 := hcc37 1 _ rfl; (try simp only [show (k26).sz = 4 from rfl, Nat.mul_one, Nat.add_zero] at hx37_1); have hf37_1 := hfr37 1; (try simp only [show (k26).sz = 4 from rfl, Nat.mul_one, Nat.add_zero] at hf37_1); clear hcl37 hcc37 hfr37 hM37) | ((with_reducible refine gate_store (t := 9) (p := 55) rfl ?_); refine store_event (t := 9) (p := 55) (v := ?vo_w38) (w1 := (w35.setCell ⟨go32, ((ji29) : Int).toNat * 4 + 1, none⟩ (.string a4))) ?hg ?ho ?hn ?hr ?_; (case ho => rfl); (case hg => rfl); (case hn => rfl); (case hr => first | (go_simp; done) | (go_simp; rfl)); intro w38 hw; have hg : w35.grownBy w38 (some go32) := (by rw [hw]; exact HP37.2); have hp_ : Kd.R k26 26 w38 w.heap.size (fun _ => True) (.slice (some ⟨go32, 0, none⟩) t417.length co36) y423 := (by rw [hw, Ny423.out]; exact HP37.1); clear HP37; have n0_ := Aside0.mk (hp_); have n1_ := Aside0.mk ((by rw [hw]; exact below_set (HB.out) GB32.out : Below w.heap.size w w38)); clear HO419; clear HB; have HO419 := n0_; have HB := n1_; clear n0_ n1_; clear hg hw hp_) | ((with_reducible refine gate_callee (f := 15) rfl ?_); refine goesL_ (some 66) rfl rfl Tryz.func15 (by kernel_rfl) rfl #[.slice (some ⟨go32, 0, none⟩) y423.length co36] rfl (by (try simp only [List.map_toArray, List.map_cons, List.map_nil]); first | done | (rw [show y423.length = t417.length from (Kd.R_reads' HO419.out).1.symm] <;> rfl) | rfl | (simp only [List.length_drop, List.length_take]; rfl)) ?_; (with_reducible refine (chart_Chart_Check.calls kj7 _ _ y423 t424 _ ?side1 ?side2 A33.out).mono ?_); (case side1 => repeat (first | exact (Kd.R_reads' HO419.out).2.2 | (with_reducible refine Kd.C_alloc ?_ _) | (with_reducible refine Kd.C_drewN ?_ _) | (with_reducible refine Kd.C_drew ?_))); (case side2 => rw [show y423.length = t417.length from (Kd.R_reads' HO419.out).1.symm]; exact (Kd.R_reads' HO419.out).2.1); rintro e w39 ⟨rfl, hb⟩; refine ⟨_, rfl, ?_⟩; have n0_ := Aside0.mk (Kd.R_below (by (with_reducible repeat (first | apply Kd.R_alloc | apply Kd.R_drewN | apply Kd.R_drew)); exact HO419.out) hb); have n1_ := Aside0.mk (below_step (by repeat (first | (with_reducible first | exact HB.out | apply below_alloc | apply pw_below_drewN | apply below_drew1) | exact HB.out)) hb); clear HO419; clear HB; have HO419 := n0_; have HB := n1_; clear n0_ n1_; (try clear hb); (try clear hb2); (try clear hk); (try clear hi)) | ((with_reducible refine gate_callee (f := 16) rfl ?_); refine goesL_ (some 68) rfl rfl Tryz.func16 (by kernel_rfl) rfl #[.slice (some ⟨go32, 0, none⟩) y423.length co36] rfl (by (try simp only [List.map_toArray, List.map_cons, List.map_nil]); first | done | (rw [show y423.length = t417.length from (Kd.R_reads' HO419.out).1.symm] <;> rfl) | rfl | (simp only [List.length_drop, List.length_take]; rfl)) ?_; (with_reducible refine (transposallaw06_Check.calls kj7 _ _ y423 t425 _ ?side1 ?side2 A34.out).mono ?_); (case side1 => repeat (first | exact (Kd.R_reads' HO419.out).2.2 | (with_reducible refine Kd.C_alloc ?_ _) | (with_reducible refine Kd.C_drewN ?_ _) | (with_reducible refine Kd.C_drew ?_))); (case side2 => rw [show y423.length = t417.length from (Kd.R_reads' HO419.out).1.symm]; exact (Kd.R_reads' HO419.out).2.1); rintro e w40 ⟨rfl, hb⟩; refine ⟨_, rfl, ?_⟩; have n0_ := Aside0.mk (Kd.R_below (by (with_reducible repeat (first | apply Kd.R_alloc | apply Kd.R_drewN | apply Kd.R_drew)); exact HO419.out) hb); have n1_ := Aside0.mk (below_step (by repeat (first | (with_reducible first | exact HB.out | apply below_alloc | apply pw_below_drewN | apply below_drew1) | exact HB.out)) hb); clear HO419; clear HB; have HO419 := n0_; have HB := n1_; clear n0_ n1_; (try clear hb); (try clear hb2); (try clear hk); (try clear hi)))
          go_ret
          exact ⟨by first | rfl | (simp [errW_none, errW_some] <;> rfl) | (simp only [← hji29]; first | rfl | (simp [errW_none, errW_some] <;> rfl)) | (simp [*, errW_none, errW_some] <;> rfl), by repeat (first | (with_reducible first | exact HB.out | apply below_alloc | apply pw_below_drewN | apply below_drew1) | exact HB.out)⟩
         ·rw [if_neg c31] at H
          exact absurd H (by simp)
        ·rw [if_neg c30] at H
         exact absurd H (by simp)
       ·rw [if_neg c28] at H
        have c28b0 : ((Int.tmod a2 4) == 1) = false := beq_eq_false_iff_ne.mpr c28
        have c28b1 : ((Int.tmod a2 4) != 1) = true := bne_iff_ne.mpr c28
        by_cases c41 : (Int.tmod a2 4) = 2
        ·rw [if_pos c41] at H
         have c41b0 : ((Int.tmod a2 4) == 2) = true := beq_iff_eq.mpr c41
         have c41b1 : ((Int.tmod a2 4) != 2) = false := bne_eq_false_iff_eq.mpr c41
         clear c41
         obtain ⟨ji42, hji42⟩ : ∃ j_ : Int, (Int.tmod (wrap64 (a1)) (t417.length : Int)) = j_ := ⟨_, rfl⟩
         replace H : (if 0 ≤ (ji42) then (if (ji42) < (t417.length : Int) then ((some (t417.set ((ji42) : Int).toNat (⟨(rd_T26 t417 (ji42)).f0, (rd_T26 t417 (ji42)).f1, (Int.tmod a3 7) % 256, (rd_T26 t417 (ji42)).f3⟩ : S26) : List (S26))).bind fun y426 => ((chart_Chart_Check.f kj7 y426).bind fun t427 => ((transposallaw06_Check.f kj7 y426).bind fun t428 => (some (t427 == t428))))) else (none)) else (none)) = some r := by first | (rw [hji42] at H; exact H) | (simp only [hji42] at H ⊢; exact H)
         (try rw [hji42] at A13)
         by_cases c43 : 0 ≤ (ji42)
         ·rw [if_pos c43] at H
          have c43b0 : decide (0 ≤ (ji42)) = true := decide_eq_true c43
          clear c43
          by_cases c44 : (ji42) < (t417.length : Int)
          ·rw [if_pos c44] at H
           have c44b0 : decide ((ji42) < (t417.length : Int)) = true := decide_eq_true c44
           clear c44
           obtain ⟨y426, hy426⟩ : ∃ y_ : List (S26), y_ = (t417.set ((ji42) : Int).toNat (⟨(rd_T26 t417 (ji42)).f0, (rd_T26 t417 (ji42)).f1, (Int.tmod a3 7) % 256, (rd_T26 t417 (ji42)).f3⟩ : S26)) := ⟨_, rfl⟩
           replace H : ((chart_Chart_Check.f kj7 y426).bind fun t427 => ((transposallaw06_Check.f kj7 y426).bind fun t428 => (some (t427 == t428)))) = some r := by first | (rw [hy426]; with_reducible exact H) | (have H2_ := (Option.bind_some _ _).symm.trans H; rw [hy426]; with_reducible exact H2_) | (have H2_ := (Option.bind_some _ _).symm.trans H; with_reducible exact H2_) | with_reducible exact H | (rw [hy426]; exact H) | exact H
           have Ny426 := Aside0.mk hy426
           clear hy426
           replace H := Option.bind_eq_some_iff.mp H
           obtain ⟨t427, A460, H⟩ := H
           replace H : ((transposallaw06_Check.f kj7 y426).bind fun t428 => (some (t427 == t428))) = some r := H
           have A46 := Aside0.mk A460
           clear A460
           replace H := Option.bind_eq_some_iff.mp H
           obtain ⟨t428, A470, H⟩ := H
           replace H : (some (t427 == t428)) = some r := H
           have A47 := Aside0.mk A470
           clear A470
           obtain rfl := Option.some.inj H
           go_wp2_with (first | ((with_reducible refine gate_callee (f := 8) rfl ?_); refine goesL_ (some 29) rfl rfl Tryz.func8 (by kernel_rfl) rfl #[.slice A0 l0.length c0] rfl (by (try simp only [List.map_toArray, List.map_cons, List.map_nil]); first | done | rfl | (simp only [List.length_drop, List.length_take]; rfl)) ?_; (with_reducible refine (transposallaw06_Make.calls kj7 _ _ l0 t417 _ ?side1 ?side2 A13.out).mono ?_); (case side1 => repeat (first | exact (Kd.C_below HR0.out HB.out) | (with_reducible refine Kd.C_alloc ?_ _) | (with_reducible refine Kd.C_drewN ?_ _) | (with_reducible refine Kd.C_drew ?_))); (case side2 => exact HC0.out); rintro e w48 ⟨v418, rfl, ho0, hb⟩; refine ⟨_, rfl, ?_⟩; have n0_ := Aside0.mk (Kd.R_lower ho0 (below_size (by repeat (first | (with_reducible first | exact HB.out | apply below_alloc | apply pw_below_drewN | apply below_drew1) | exact HB.out)))); have n1_ := Aside0.mk (below_step (by repeat (first | (with_reducible first | exact HB.out | apply below_alloc | apply pw_below_drewN | apply below_drew1) | exact HB.out)) hb); clear HB; have HO419 := n0_; have HB := n1_; clear n0_ n1_; (try clear hb); (try clear hb2); (try clear hk); (try clear hi); (try clear ho0); obtain ⟨Ao49, co49, eo49⟩ := Kd.R_slice HO419.out; subst eo49; have p45 : 0 ≤ ((ji42) : Int) := of_decide_eq_true (by first | (with_reducible assumption) | assumption); have q45 : ((ji42) : Int) < ((t417.length : Int) : Int) := of_decide_eq_true (by first | (with_reducible assumption) | assumption); obtain ⟨go45, co45, eo45, gb45, gl45, cl45, HG45⟩ := Kd.R_form HO419.out (by omega); (first | cases eo45 | (injection eo45 with ea_ en_ ec_; (first | subst ea_ | (injection ea_ with ea_; subst ea_)); subst ec_; clear en_)); have GB45 := Aside0.mk gb45; have GG45 := Aside0.mk HG45; clear gb45 gl45 HG45; obtain ⟨ce45, hcl45, hM45, hcc45, hfr45⟩ := Kd.R_elem HO419.out z26 ((ji42) : Int) p45 q45; obtain rfl := k26_openM hM45; have hx45_0 : w48.cell? ⟨go45, ((ji42) : Int).toNat * 4, none⟩ = some (.int .u32 ((rd_T26 t417 (ji42)).f0)) := hcc45 0 _ rfl; have hx45_1 : w48.cell? ⟨go45, ((ji42) : Int).toNat * 4 + 1, none⟩ = some (.string ((rd_T26 t417 (ji42)).f1)) := hcc45 1 _ rfl; have hx45_2 : w48.cell? ⟨go45, ((ji42) : Int).toNat * 4 + 2, none⟩ = some (.int .u8 ((rd_T26 t417 (ji42)).f2)) := hcc45 2 _ rfl; have hx45_3 : w48.cell? ⟨go45, ((ji42) : Int).toNat * 4 + 3, none⟩ = some (.int .u32 ((rd_T26 t417 (ji42)).f3)) := hcc45 3 _ rfl; have hf45_0 : w48.frozen? ⟨go45, ((ji42) : Int).toNat * 4, none⟩ = false := hfr45 0; have hf45_1 : w48.frozen? ⟨go45, ((ji42) : Int).toNat * 4 + 1, none⟩ = false := hfr45 1; have hf45_2 : w48.frozen? ⟨go45, ((ji42) : Int).toNat * 4 + 2, none⟩ = false := hfr45 2; have hf45_3 : w48.frozen? ⟨go45, ((ji42) : Int).toNat * 4 + 3, none⟩ = false := hfr45 3; clear hcl45 hcc45 hfr45 hM45; replace p45 := eq_true p45; replace q45 := eq_true q45; have HX50 := Aside0.mk (show Kd.R k26 26 w48 w.heap.size (fun _ => True) (.slice (some ⟨go45, 0, none⟩) t417.length co49) t417 from (by (with_reducible repeat (first | apply Kd.R_alloc | apply Kd.R_drewN | apply Kd.R_drew)); exact HO419.out)); obtain ⟨ce50, hcl50, hM50, hcc50, hfr50⟩ := Kd.R_elem HX50.out z26 ((ji42) : Int) (of_decide_eq_true (by first | (with_reducible assumption) | assumption)) (by have h_ : ((ji42) : Int) < ((t417.length : Int) : Int) := of_decide_eq_true (by first | (with_reducible assumption) | assumption); first | exact h_ | (have e_ := (Kd.R_reads' HO419.out).1; omega) | simpa using h_); obtain rfl := k26_openM hM50; have HP50 := Kd.R_seg HX50.out ((ji42) : Int) (of_decide_eq_true (by first | (with_reducible assumption) | assumption)) (by have h_ : ((ji42) : Int) < ((t417.length : Int) : Int) := of_decide_eq_true (by first | (with_reducible assumption) | assumption); first | exact h_ | (have e_ := (Kd.R_reads' HO419.out).1; omega) | simpa using h_) (seg := [.int .u8 ((Int.tmod a3 7) % 256)]) (j := 2) hcl50 hcc50 (show 3 ≤ 4 from by decide) (x' := (⟨(rd_T26 t417 (ji42)).f0, (rd_T26 t417 (ji42)).f1, (Int.tmod a3 7) % 256, (rd_T26 t417 (ji42)).f3⟩ : S26)) (k26_mkM _ _ _ (⟨(rd_T26 t417 (ji42)).f0, (rd_T26 t417 (ji42)).f1, (Int.tmod a3 7) % 256, (rd_T26 t417 (ji42)).f3⟩ : S26) ) (fun _ hk => hk); have hx50_2 := hcc50 2 _ rfl; (try simp only [show (k26).sz = 4 from rfl, Nat.mul_one, Nat.add_zero] at hx50_2); have hf50_2 := hfr50 2; (try simp only [show (k26).sz = 4 from rfl, Nat.mul_one, Nat.add_zero] at hf50_2); clear hcl50 hcc50 hfr50 hM50) | ((with_reducible refine gate_store (t := 24) (p := 64) rfl ?_); refine store_event (t := 24) (p := 64) (v := ?vo_w51) (w1 := (w48.setCell ⟨go45, ((ji42) : Int).toNat * 4 + 2, none⟩ (.int .u8 ((Int.tmod a3 7) % 256)))) ?hg ?ho ?hn ?hr ?_; (case ho => rfl); (case hg => rfl); (case hn => rfl); (case hr => first | (go_simp; done) | (go_simp; rfl)); intro w51 hw; have hg : w48.grownBy w51 (some go45) := (by rw [hw]; exact HP50.2); have hp_ : Kd.R k26 26 w51 w.heap.size (fun _ => True) (.slice (some ⟨go45, 0, none⟩) t417.length co49) y426 := (by rw [hw, Ny426.out]; exact HP50.1); clear HP50; have n0_ := Aside0.mk (hp_); have n1_ := Aside0.mk ((by rw [hw]; exact below_set (HB.out) GB45.out : Below w.heap.size w w51)); clear HO419; clear HB; have HO419 := n0_; have HB := n1_; clear n0_ n1_; clear hg hw hp_) | ((with_reducible refine gate_callee (f := 15) rfl ?_); refine goesL_ (some 66) rfl rfl Tryz.func15 (by kernel_rfl) rfl #[.slice (some ⟨go45, 0, none⟩) y426.length co49] rfl (by (try simp only [List.map_toArray, List.map_cons, List.map_nil]); first | done | (rw [show y426.length = t417.length from (Kd.R_reads' HO419.out).1.symm] <;> rfl) | rfl | (simp only [List.length_drop, List.length_take]; rfl)) ?_; (with_reducible refine (chart_Chart_Check.calls kj7 _ _ y426 t427 _ ?side1 ?side2 A46.out).mono ?_); (case side1 => repeat (first | exact (Kd.R_reads' HO419.out).2.2 | (with_reducible refine Kd.C_alloc ?_ _) | (with_reducible refine Kd.C_drewN ?_ _) | (with_reducible refine Kd.C_drew ?_))); (case side2 => rw [show y426.length = t417.length from (Kd.R_reads' HO419.out).1.symm]; exact (Kd.R_reads' HO419.out).2.1); rintro e w52 ⟨rfl, hb⟩; refine ⟨_, rfl, ?_⟩; have n0_ := Aside0.mk (Kd.R_below (by (with_reducible repeat (first | apply Kd.R_alloc | apply Kd.R_drewN | apply Kd.R_drew)); exact HO419.out) hb); have n1_ := Aside0.mk (below_step (by repeat (first | (with_reducible first | exact HB.out | apply below_alloc | apply pw_below_drewN | apply below_drew1) | exact HB.out)) hb); clear HO419; clear HB; have HO419 := n0_; have HB := n1_; clear n0_ n1_; (try clear hb); (try clear hb2); (try clear hk); (try clear hi)) | ((with_reducible refine gate_callee (f := 16) rfl ?_); refine goesL_ (some 68) rfl rfl Tryz.func16 (by kernel_rfl) rfl #[.slice (some ⟨go45, 0, none⟩) y426.length co49] rfl (by (try simp only [List.map_toArray, List.map_cons, List.map_nil]); first | done | (rw [show y426.length = t417.length from (Kd.R_reads' HO419.out).1.symm] <;> rfl) | rfl | (simp only [List.length_drop, List.length_take]; rfl)) ?_; (with_reducible refine (transposallaw06_Check.calls kj7 _ _ y426 t428 _ ?side1 ?side2 A47.out).mono ?_); (case side1 => repeat (first | exact (Kd.R_reads' HO419.out).2.2 | (with_reducible refine Kd.C_alloc ?_ _) | (with_reducible refine Kd.C_drewN ?_ _) | (with_reducible refine Kd.C_drew ?_))); (case side2 => rw [show y426.length = t417.length from (Kd.R_reads' HO419.out).1.symm]; exact (Kd.R_reads' HO419.out).2.1); rintro e w53 ⟨rfl, hb⟩; refine ⟨_, rfl, ?_⟩; have n0_ := Aside0.mk (Kd.R_below (by (with_reducible repeat (first | apply Kd.R_alloc | apply Kd.R_drewN | apply Kd.R_drew)); exact HO419.out) hb); have n1_ := Aside0.mk (below_step (by repeat (first | (with_reducible first | exact HB.out | apply below_alloc | apply pw_below_drewN | apply below_drew1) | exact HB.out)) hb); clear HO419; clear HB; have HO419 := n0_; have HB := n1_; clear n0_ n1_; (try clear hb); (try clear hb2); (try clear hk); (try clear hi)))
           go_ret
           exact ⟨by first | rfl | (simp [errW_none, errW_some] <;> rfl) | (simp only [← hji42]; first | rfl | (simp [errW_none, errW_some] <;> rfl)) | (simp [*, errW_none, errW_some] <;> rfl), by repeat (first | (with_reducible first | exact HB.out | apply below_alloc | apply pw_below_drewN | apply below_drew1) | exact HB.out)⟩
          ·rw [if_neg c44] at H
           exact absurd H (by simp)
         ·rw [if_neg c43] at H
          exact absurd H (by simp)
        ·rw [if_neg c41] at H
         have c41b0 : ((Int.tmod a2 4) == 2) = false := beq_eq_false_iff_ne.mpr c41
         have c41b1 : ((Int.tmod a2 4) != 2) = true := bne_iff_ne.mpr c41
         obtain ⟨ji54, hji54⟩ : ∃ j_ : Int, (Int.tmod (wrap64 (a1)) (t417.length : Int)) = j_ := ⟨_, rfl⟩
         replace H : (if 0 ≤ (ji54) then (if (ji54) < (t417.length : Int) then ((some (t417.set ((ji54) : Int).toNat (⟨(rd_T26 t417 (ji54)).f0, (rd_T26 t417 (ji54)).f1, (rd_T26 t417 (ji54)).f2, a3⟩ : S26) : List (S26))).bind fun y429 => ((chart_Chart_Check.f kj7 y429).bind fun t430 => ((transposallaw06_Check.f kj7 y429).bind fun t431 => (some (t430 == t431))))) else (none)) else (none)) = some r := by first | (rw [hji54] at H; exact H) | (simp only [hji54] at H ⊢; exact H)
         (try rw [hji54] at A13)
         by_cases c55 : 0 ≤ (ji54)
         ·rw [if_pos c55] at H
          have c55b0 : decide (0 ≤ (ji54)) = true := decide_eq_true c55
          clear c55
          by_cases c56 : (ji54) < (t417.length : Int)
          ·rw [if_pos c56] at H
           have c56b0 : decide ((ji54) < (t417.length : Int)) = true := decide_eq_true c56
           clear c56
           obtain ⟨y429, hy429⟩ : ∃ y_ : List (S26), y_ = (t417.set ((ji54) : Int).toNat (⟨(rd_T26 t417 (ji54)).f0, (rd_T26 t417 (ji54)).f1, (rd_T26 t417 (ji54)).f2, a3⟩ : S26)) := ⟨_, rfl⟩
           replace H : ((chart_Chart_Check.f kj7 y429).bind fun t430 => ((transposallaw06_Check.f kj7 y429).bind fun t431 => (some (t430 == t431)))) = some r := by first | (rw [hy429]; with_reducible exact H) | (have H2_ := (Option.bind_some _ _).symm.trans H; rw [hy429]; with_reducible exact H2_) | (have H2_ := (Option.bind_some _ _).symm.trans H; with_reducible exact H2_) | with_reducible exact H | (rw [hy429]; exact H) | exact H
           have Ny429 := Aside0.mk hy429
           clear hy429
           replace H := Option.bind_eq_some_iff.mp H
           obtain ⟨t430, A580, H⟩ := H
           replace H : ((transposallaw06_Check.f kj7 y429).bind fun t431 => (some (t430 == t431))) = some r := H
           have A58 := Aside0.mk A580
           clear A580
           replace H := Option.bind_eq_some_iff.mp H
           obtain ⟨t431, A590, H⟩ := H
           replace H : (some (t430 == t431)) = some r := H
           have A59 := Aside0.mk A590
           clear A590
           obtain rfl := Option.some.inj H
           go_wp2_with (first | ((with_reducible refine gate_callee (f := 8) rfl ?_); refine goesL_ (some 29) rfl rfl Tryz.func8 (by kernel_rfl) rfl #[.slice A0 l0.length c0] rfl (by (try simp only [List.map_toArray, List.map_cons, List.map_nil]); first | done | rfl | (simp only [List.length_drop, List.length_take]; rfl)) ?_; (with_reducible refine (transposallaw06_Make.calls kj7 _ _ l0 t417 _ ?side1 ?side2 A13.out).mono ?_); (case side1 => repeat (first | exact (Kd.C_below HR0.out HB.out) | (with_reducible refine Kd.C_alloc ?_ _) | (with_reducible refine Kd.C_drewN ?_ _) | (with_reducible refine Kd.C_drew ?_))); (case side2 => exact HC0.out); rintro e w60 ⟨v418, rfl, ho0, hb⟩; refine ⟨_, rfl, ?_⟩; have n0_ := Aside0.mk (Kd.R_lower ho0 (below_size (by repeat (first | (with_reducible first | exact HB.out | apply below_alloc | apply pw_below_drewN | apply below_drew1) | exact HB.out)))); have n1_ := Aside0.mk (below_step (by repeat (first | (with_reducible first | exact HB.out | apply below_alloc | apply pw_below_drewN | apply below_drew1) | exact HB.out)) hb); clear HB; have HO419 := n0_; have HB := n1_; clear n0_ n1_; (try clear hb); (try clear hb2); (try clear hk); (try clear hi); (try clear ho0); obtain ⟨Ao61, co61, eo61⟩ := Kd.R_slice HO419.out; subst eo61; have p57 : 0 ≤ ((ji54) : Int) := of_decide_eq_true (by first | (with_reducible assumption) | assumption); have q57 : ((ji54) : Int) < ((t417.length : Int) : Int) := of_decide_eq_true (by first | (with_reducible assumption) | assumption); obtain ⟨go57, co57, eo57, gb57, gl57, cl57, HG57⟩ := Kd.R_form HO419.out (by omega); (first | cases eo57 | (injection eo57 with ea_ en_ ec_; (first | subst ea_ | (injection ea_ with ea_; subst ea_)); subst ec_; clear en_)); have GB57 := Aside0.mk gb57; have GG57 := Aside0.mk HG57; clear gb57 gl57 HG57; obtain ⟨ce57, hcl57, hM57, hcc57, hfr57⟩ := Kd.R_elem HO419.out z26 ((ji54) : Int) p57 q57; obtain rfl := k26_openM hM57; have hx57_0 : w60.cell? ⟨go57, ((ji54) : Int).toNat * 4, none⟩ = some (.int .u32 ((rd_T26 t417 (ji54)).f0)) := hcc57 0 _ rfl; have hx57_1 : w60.cell? ⟨go57, ((ji54) : Int).toNat * 4 + 1, none⟩ = some (.string ((rd_T26 t417 (ji54)).f1)) := hcc57 1 _ rfl; have hx57_2 : w60.cell? ⟨go57, ((ji54) : Int).toNat * 4 + 2, none⟩ = some (.int .u8 ((rd_T26 t417 (ji54)).f2)) := hcc57 2 _ rfl; have hx57_3 : w60.cell? ⟨go57, ((ji54) : Int).toNat * 4 + 3, none⟩ = some (.int .u32 ((rd_T26 t417 (ji54)).f3)) := hcc57 3 _ rfl; have hf57_0 : w60.frozen? ⟨go57, ((ji54) : Int).toNat * 4, none⟩ = false := hfr57 0; have hf57_1 : w60.frozen? ⟨go57, ((ji54) : Int).toNat * 4 + 1, none⟩ = false := hfr57 1; have hf57_2 : w60.frozen? ⟨go57, ((ji54) : Int).toNat * 4 + 2, none⟩ = false := hfr57 2; have hf57_3 : w60.frozen? ⟨go57, ((ji54) : Int).toNat * 4 + 3, none⟩ = false := hfr57 3; clear hcl57 hcc57 hfr57 hM57; replace p57 := eq_true p57; replace q57 := eq_true q57; have HX62 := Aside0.mk (show Kd.R k26 26 w60 w.heap.size (fun _ => True) (.slice (some ⟨go57, 0, none⟩) t417.length co61) t417 from (by (with_reducible repeat (first | apply Kd.R_alloc | apply Kd.R_drewN | apply Kd.R_drew)); exact HO419.out)); obtain ⟨ce62, hcl62, hM62, hcc62, hfr62⟩ := Kd.R_elem HX62.out z26 ((ji54) : Int) (of_decide_eq_true (by first | (with_reducible assumption) | assumption)) (by have h_ : ((ji54) : Int) < ((t417.length : Int) : Int) := of_decide_eq_true (by first | (with_reducible assumption) | assumption); first | exact h_ | (have e_ := (Kd.R_reads' HO419.out).1; omega) | simpa using h_); obtain rfl := k26_openM hM62; have HP62 := Kd.R_seg HX62.out ((ji54) : Int) (of_decide_eq_true (by first | (with_reducible assumption) | assumption)) (by have h_ : ((ji54) : Int) < ((t417.length : Int) : Int) := of_decide_eq_true (by first | (with_reducible assumption) | assumption); first | exact h_ | (have e_ := (Kd.R_reads' HO419.out).1; omega) | simpa using h_) (seg := [.int .u32 a3]) (j := 3) hcl62 hcc62 (show 4 ≤ 4 from by decide) (x' := (⟨(rd_T26 t417 (ji54)).f0, (rd_T26 t417 (ji54)).f1, (rd_T26 t417 (ji54)).f2, a3⟩ : S26)) (k26_mkM _ _ _ (⟨(rd_T26 t417 (ji54)).f0, (rd_T26 t417 (ji54)).f1, (rd_T26 t417 (ji54)).f2, a3⟩ : S26) ) (fun _ hk => hk); have hx62_3 := hcc62 3 _ rfl; (try simp only [show (k26).sz = 4 from rfl, Nat.mul_one, Nat.add_zero] at hx62_3); have hf62_3 := hfr62 3; (try simp only [show (k26).sz = 4 from rfl, Nat.mul_one, Nat.add_zero] at hf62_3); clear hcl62 hcc62 hfr62 hM62) | ((with_reducible refine gate_store (t := 23) (p := 41) rfl ?_); refine store_event (t := 23) (p := 41) (v := ?vo_w63) (w1 := (w60.setCell ⟨go57, ((ji54) : Int).toNat * 4 + 3, none⟩ (.int .u32 a3))) ?hg ?ho ?hn ?hr ?_; (case ho => rfl); (case hg => rfl); (case hn => rfl); (case hr => first | (go_simp; done) | (go_simp; rfl)); intro w63 hw; have hg : w60.grownBy w63 (some go57) := (by rw [hw]; exact HP62.2); have hp_ : Kd.R k26 26 w63 w.heap.size (fun _ => True) (.slice (some ⟨go57, 0, none⟩) t417.length co61) y429 := (by rw [hw, Ny429.out]; exact HP62.1); clear HP62; have n0_ := Aside0.mk (hp_); have n1_ := Aside0.mk ((by rw [hw]; exact below_set (HB.out) GB57.out : Below w.heap.size w w63)); clear HO419; clear HB; have HO419 := n0_; have HB := n1_; clear n0_ n1_; clear hg hw hp_) | ((with_reducible refine gate_callee (f := 15) rfl ?_); refine goesL_ (some 66) rfl rfl Tryz.func15 (by kernel_rfl) rfl #[.slice (some ⟨go57, 0, none⟩) y429.length co61] rfl (by (try simp only [List.map_toArray, List.map_cons, List.map_nil]); first | done | (rw [show y429.length = t417.length from (Kd.R_reads' HO419.out).1.symm] <;> rfl) | rfl | (simp only [List.length_drop, List.length_take]; rfl)) ?_; (with_reducible refine (chart_Chart_Check.calls kj7 _ _ y429 t430 _ ?side1 ?side2 A58.out).mono ?_); (case side1 => repeat (first | exact (Kd.R_reads' HO419.out).2.2 | (with_reducible refine Kd.C_alloc ?_ _) | (with_reducible refine Kd.C_drewN ?_ _) | (with_reducible refine Kd.C_drew ?_))); (case side2 => rw [show y429.length = t417.length from (Kd.R_reads' HO419.out).1.symm]; exact (Kd.R_reads' HO419.out).2.1); rintro e w64 ⟨rfl, hb⟩; refine ⟨_, rfl, ?_⟩; have n0_ := Aside0.mk (Kd.R_below (by (with_reducible repeat (first | apply Kd.R_alloc | apply Kd.R_drewN | apply Kd.R_drew)); exact HO419.out) hb); have n1_ := Aside0.mk (below_step (by repeat (first | (with_reducible first | exact HB.out | apply below_alloc | apply pw_below_drewN | apply below_drew1) | exact HB.out)) hb); clear HO419; clear HB; have HO419 := n0_; have HB := n1_; clear n0_ n1_; (try clear hb); (try clear hb2); (try clear hk); (try clear hi)) | ((with_reducible refine gate_callee (f := 16) rfl ?_); refine goesL_ (some 68) rfl rfl Tryz.func16 (by kernel_rfl) rfl #[.slice (some ⟨go57, 0, none⟩) y429.length co61] rfl (by (try simp only [List.map_toArray, List.map_cons, List.map_nil]); first | done | (rw [show y429.length = t417.length from (Kd.R_reads' HO419.out).1.symm] <;> rfl) | rfl | (simp only [List.length_drop, List.length_take]; rfl)) ?_; (with_reducible refine (transposallaw06_Check.calls kj7 _ _ y429 t431 _ ?side1 ?side2 A59.out).mono ?_); (case side1 => repeat (first | exact (Kd.R_reads' HO419.out).2.2 | (with_reducible refine Kd.C_alloc ?_ _) | (with_reducible refine Kd.C_drewN ?_ _) | (with_reducible refine Kd.C_drew ?_))); (case side2 => rw [show y429.length = t417.length from (Kd.R_reads' HO419.out).1.symm]; exact (Kd.R_reads' HO419.out).2.1); rintro e w65 ⟨rfl, hb⟩; refine ⟨_, rfl, ?_⟩; have n0_ := Aside0.mk (Kd.R_below (by (with_reducible repeat (first | apply Kd.R_alloc | apply Kd.R_drewN | apply Kd.R_drew)); exact HO419.out) hb); have n1_ := Aside0.mk (below_step (by repeat (first | (with_reducible first | exact HB.out | apply below_alloc | apply pw_below_drewN | apply below_drew1) | exact HB.out)) hb); clear HO419; clear HB; have HO419 := n0_; have HB := n1_; clear n0_ n1_; (try clear hb); (try clear hb2); (try clear hk); (try clear hi)))
           go_ret
           exact ⟨by first | rfl | (simp [errW_none, errW_some] <;> rfl) | (simp only [← hji54]; first | rfl | (simp [errW_none, errW_some] <;> rfl)) | (simp [*, errW_none, errW_some] <;> rfl), by repeat (first | (with_reducible first | exact HB.out | apply below_alloc | apply pw_below_drewN | apply below_drew1) | exact HB.out)⟩
          ·rw [if_neg c56] at H
           exact absurd H (by simp)
         ·rw [if_neg c55] at H
          exact absurd H (by simp)
 ·replace c7 := Bool.eq_false_iff.mpr c7
  subst c7
  have H1 : (some false) = some r := by rw [if_neg (show ¬ (false = true) by decide)] at H; exact H
  clear H
  have H := H1
  clear H1
  obtain rfl := Option.some.inj H
  go_enter Tryz.func6, Tryz.ntmps6
  go_wp2_with (first | ((with_reducible refine gate_callee (f := 7) rfl ?_); refine goesL_ (some 13) rfl rfl Tryz.func7 (by kernel_rfl) rfl #[] rfl (by (try simp only [List.map_toArray, List.map_cons, List.map_nil]); first | done | rfl | (simp only [List.length_drop, List.length_take]; rfl)) ?_; (with_reducible refine (transposallaw06_Awake.calls k  false _ ?side1 A6.out).mono ?_); (case side1 => exact Glob.below (by repeat (first | (with_reducible first | exact HB.out | apply below_alloc | apply pw_below_drewN | apply below_drew1) | exact HB.out)) HG.out); rintro e w66 ⟨rfl, hb⟩; refine ⟨_, rfl, ?_⟩; have n0_ := Aside0.mk (below_step (by repeat (first | (with_reducible first | exact HB.out | apply below_alloc | apply pw_below_drewN | apply below_drew1) | exact HB.out)) hb); clear HB; have HB := n0_; clear n0_; (try clear hb); (try clear hb2); (try clear hk); (try clear hi)))
  go_ret
  exact ⟨by first | rfl | (simp [errW_none, errW_some] <;> rfl) | (simp [*, errW_none, errW_some] <;> rfl), by repeat (first | (with_reducible first | exact HB.out | apply below_alloc | apply pw_below_drewN | apply below_drew1) | exact HB.out)⟩

/-- THE ONE PURE STATEMENT of transposallaw06_ChartSpoilt: yours. -/
def transposallaw06_ChartSpoilt.Pure : Prop := ∀ (l0 : List (S46)) (a1 : Int) (a2 : Int) (a3 : Int) (a4 : ByteArray), l0.length ≤ maxLen → (∀ y, y ∈ l0 → ((Lit.int .u8 y.f0).wf = true ∧ (Lit.int .u8 y.f1).wf = true ∧ (Lit.int .u8 y.f2).wf = true ∧ (Lit.int .u8 y.f3).wf = true)) → (Lit.int .u8 a1).wf = true → (Lit.int .u8 a2).wf = true → (Lit.int .u32 a3).wf = true → a4.size ≤ 140737488351232 → ∃ k, transposallaw06_ChartSpoilt.f k l0 a1 a2 a3 a4 = some true

end Go.Proofs.YtckggmblafafjaaGreatDoor.XA
