-- Written by a program of this session's (wip/xp) out of the translation; given functions by hand.
import Derived.Test.YtfpfilmdlconhaaGreatDoorXA0
import Derived.Test.YtfpfilmdlconhaaGreatDoorXA9
import Derived.Test.YtfpfilmdlconhaaGreatDoorXA11
import Derived.Test.YtfpfilmdlconhaaGreatDoorXA13
import Derived.Test.YtfpfilmdlconhaaGreatDoorXA15
namespace Go.Proofs.YtfpfilmdlconhaaGreatDoor.XA
open Go.RowKit Go.Proofs.YtfpfilmdlconhaaGreatDoorW.PrintWords Go.Proofs.YtfpfilmdlconhaaGreatDoorW.PrintLast Go.Proofs.YtfpfilmdlconhaaGreatDoorW.PrintMore
attribute [local go_sem] max2_int min2_int max_two min_two max_three min_three max_four min_four   -- for this text's walks alone
set_option linter.unusedVariables false
set_option linter.unusedSimpArgs false

/-! ### transposallaw08_CalendarChecks: function 6 -/
mutual
def transposallaw08_CalendarChecks.l0 : Nat → List Int → Int → Bool → List Int → Int → Int → List Int → Int → Option (Bool)
 | 0, _, _, _, _, _, _, _, _ => none
 | k + 1, x0, x1, x2, x19, x20, x21, x378000, x378001 => if x21 < x20 then (if 0 ≤ x21 then (if x21 < (x19.length : Int) then (if x2 = true then ((some (([rd x19 x21] : List Int) : List Int)).bind fun y379 => (if x378000.length + y379.length < 35184372088832 then (transposallaw08_CalendarChecks.l0 k x0 x1 x2 x19 x20 (wrap64 (x21 + 1)) (x378000 ++ y379) x378001) else (none))) else ((some (([Int.tmod (rd x19 x21) 100000] : List Int) : List Int)).bind fun y385 => (if x378000.length + y385.length < 35184372088832 then (transposallaw08_CalendarChecks.l0 k x0 x1 x2 x19 x20 (wrap64 (x21 + 1)) (x378000 ++ y385) x378001) else (none)))) else (none)) else (none)) else ((day_Day_19.f x378000).bind fun t391 => ((some (([x1] : List Int) : List Int)).bind fun y394 => (if t391.length + y394.length < 35184372088832 then ((some (t391 ++ y394 : List Int)).bind fun y397 => (transposallaw08_CalendarChecks.l1 k x0 0 y397 y397 (y397.length : Int) 0 x378000 x1)) else (none))))
def transposallaw08_CalendarChecks.j3 : Nat → List Int → Int → List Int → Int → Option (Bool)
 | 0, _, _, _, _ => none
 | k + 1, x0, x10, x378000, x378001 => if (x0.length : Int) < 1 then (transposallaw08_CalendarChecks.j4 k x0 x10 true x378000 x378001) else (transposallaw08_CalendarChecks.j4 k x0 x10 (decide ((x0.length : Int) > 60)) x378000 x378001)
def transposallaw08_CalendarChecks.j4 : Nat → List Int → Int → Bool → List Int → Int → Option (Bool)
 | 0, _, _, _, _, _ => none
 | k + 1, x0, x10, x81, x378000, x378001 => if x81 = true then ((calendar_Calendar_Check.f k x378000 x378001).bind fun t404 => (if t404 = 2 then ((calendar_Calendar_Len.f x378000 x378001).bind fun t405 => (some (t405 == (x0.length : Int)))) else (some false))) else ((calendar_Calendar_Check.f k x378000 x378001).bind fun t406 => (if t406 = x10 then ((calendar_Calendar_Len.f x378000 x378001).bind fun t407 => (some (t407 == (x0.length : Int)))) else (some false)))
def transposallaw08_CalendarChecks.l1 : Nat → List Int → Int → List Int → List Int → Int → Int → List Int → Int → Option (Bool)
 | 0, _, _, _, _, _, _, _, _ => none
 | k + 1, x0, x10, x11, x45, x46, x47, x378000, x378001 => if x47 < x46 then (if 0 ≤ x47 then (if x47 < (x45.length : Int) then ((transposallaw04_Number.f k 1 1 1).bind fun t401 => (if (wrap64 (rd x45 x47)) < t401 then (transposallaw08_CalendarChecks.j2 k x0 x10 x11 x47 (rd x45 x47) x45 x46 x47 true x378000 x378001) else ((transposallaw04_Number.f k 9999 12 31).bind fun t402 => (transposallaw08_CalendarChecks.j2 k x0 x10 x11 x47 (rd x45 x47) x45 x46 x47 (decide ((wrap64 (rd x45 x47)) > t402)) x378000 x378001)))) else (none)) else (none)) else (transposallaw08_CalendarChecks.j3 k x0 x10 x378000 x378001)
def transposallaw08_CalendarChecks.j2 : Nat → List Int → Int → List Int → Int → Int → List Int → Int → Int → Bool → List Int → Int → Option (Bool)
 | 0, _, _, _, _, _, _, _, _, _, _, _ => none
 | k + 1, x0, x10, x11, x12, x13, x45, x46, x47, x61, x378000, x378001 => if x61 = true then (transposallaw08_CalendarChecks.j3 k x0 13 x378000 x378001) else (if x12 > 0 then (if 0 ≤ (wrap64 (x12 - 1)) then (if (wrap64 (x12 - 1)) < (x11.length : Int) then (if (rd x11 (wrap64 (x12 - 1))) ≥ x13 then (transposallaw08_CalendarChecks.j3 k x0 6 x378000 x378001) else (transposallaw08_CalendarChecks.l1 k x0 x10 x11 x45 x46 (wrap64 (x47 + 1)) x378000 x378001)) else (none)) else (none)) else (transposallaw08_CalendarChecks.l1 k x0 x10 x11 x45 x46 (wrap64 (x47 + 1)) x378000 x378001))
end
def transposallaw08_CalendarChecks.f (k : Nat) (l0 : List Int) (a1 : Int) (a2 : Bool) : Option (Bool) := (transposallaw08_Awake.f k).bind fun t376 => (if t376 = true then (if (l0.length : Int) > 70 then (some true) else (transposallaw08_CalendarChecks.l0 k l0 a1 a2 l0 (l0.length : Int) 0 ([] : List Int) 0)) else (some false))
theorem transposallaw08_CalendarChecks.mono_l : ∀ k, (∀ y0 y1 y2 y3 y4 y5 y6 y7, LeO (transposallaw08_CalendarChecks.l0 k y0 y1 y2 y3 y4 y5 y6 y7) (transposallaw08_CalendarChecks.l0 (k + 1) y0 y1 y2 y3 y4 y5 y6 y7)) ∧ (∀ y0 y1 y2 y3, LeO (transposallaw08_CalendarChecks.j3 k y0 y1 y2 y3) (transposallaw08_CalendarChecks.j3 (k + 1) y0 y1 y2 y3)) ∧ (∀ y0 y1 y2 y3 y4, LeO (transposallaw08_CalendarChecks.j4 k y0 y1 y2 y3 y4) (transposallaw08_CalendarChecks.j4 (k + 1) y0 y1 y2 y3 y4)) ∧ (∀ y0 y1 y2 y3 y4 y5 y6 y7, LeO (transposallaw08_CalendarChecks.l1 k y0 y1 y2 y3 y4 y5 y6 y7) (transposallaw08_CalendarChecks.l1 (k + 1) y0 y1 y2 y3 y4 y5 y6 y7)) ∧ (∀ y0 y1 y2 y3 y4 y5 y6 y7 y8 y9 y10, LeO (transposallaw08_CalendarChecks.j2 k y0 y1 y2 y3 y4 y5 y6 y7 y8 y9 y10) (transposallaw08_CalendarChecks.j2 (k + 1) y0 y1 y2 y3 y4 y5 y6 y7 y8 y9 y10))
 | 0 => ⟨fun _ _ _ _ _ _ _ _ r h => by simp [transposallaw08_CalendarChecks.l0] at h, fun _ _ _ _ r h => by simp [transposallaw08_CalendarChecks.j3] at h, fun _ _ _ _ _ r h => by simp [transposallaw08_CalendarChecks.j4] at h, fun _ _ _ _ _ _ _ _ r h => by simp [transposallaw08_CalendarChecks.l1] at h, fun _ _ _ _ _ _ _ _ _ _ _ r h => by simp [transposallaw08_CalendarChecks.j2] at h⟩
 | k + 1 => by
  obtain ⟨ih0, ih1, ih2, ih3, ih4⟩ := transposallaw08_CalendarChecks.mono_l k
  refine ⟨?_, ?_, ?_, ?_, ?_⟩
  ·intro y0 y1 y2 y3 y4 y5 y6 y7
   unfold transposallaw08_CalendarChecks.l0
   repeat' first
   | (with_reducible exact ih0 _ _ _ _ _ _ _ _)
   | (with_reducible exact ih1 _ _ _ _)
   | (with_reducible exact ih2 _ _ _ _ _)
   | (with_reducible exact ih3 _ _ _ _ _ _ _ _)
   | (with_reducible exact ih4 _ _ _ _ _ _ _ _ _ _ _)
   | (with_reducible exact calendar_Calendar_Check.mono _ _ _)
   | (with_reducible exact transposallaw04_Number.mono _ _ _ _)
   | (with_reducible exact transposallaw08_Awake.mono _)
   | (with_reducible exact LeO.refl _)
   | (with_reducible exact LeO.none _)
   | (with_reducible refine LeO.ite ?_ ?_)
   | (with_reducible refine LeO.bind ?_ (fun _ => ?_))
   | exact ih0 _ _ _ _ _ _ _ _
   | exact ih1 _ _ _ _
   | exact ih2 _ _ _ _ _
   | exact ih3 _ _ _ _ _ _ _ _
   | exact ih4 _ _ _ _ _ _ _ _ _ _ _
   | exact calendar_Calendar_Check.mono _ _ _
   | exact transposallaw04_Number.mono _ _ _ _
   | exact transposallaw08_Awake.mono _
   | exact LeO.none _
   | refine LeO.ite ?_ ?_
   | refine LeO.bind ?_ (fun _ => ?_)
  ·intro y0 y1 y2 y3
   unfold transposallaw08_CalendarChecks.j3
   repeat' first
   | (with_reducible exact ih0 _ _ _ _ _ _ _ _)
   | (with_reducible exact ih1 _ _ _ _)
   | (with_reducible exact ih2 _ _ _ _ _)
   | (with_reducible exact ih3 _ _ _ _ _ _ _ _)
   | (with_reducible exact ih4 _ _ _ _ _ _ _ _ _ _ _)
   | (with_reducible exact calendar_Calendar_Check.mono _ _ _)
   | (with_reducible exact transposallaw04_Number.mono _ _ _ _)
   | (with_reducible exact transposallaw08_Awake.mono _)
   | (with_reducible exact LeO.refl _)
   | (with_reducible exact LeO.none _)
   | (with_reducible refine LeO.ite ?_ ?_)
   | (with_reducible refine LeO.bind ?_ (fun _ => ?_))
   | exact ih0 _ _ _ _ _ _ _ _
   | exact ih1 _ _ _ _
   | exact ih2 _ _ _ _ _
   | exact ih3 _ _ _ _ _ _ _ _
   | exact ih4 _ _ _ _ _ _ _ _ _ _ _
   | exact calendar_Calendar_Check.mono _ _ _
   | exact transposallaw04_Number.mono _ _ _ _
   | exact transposallaw08_Awake.mono _
   | exact LeO.none _
   | refine LeO.ite ?_ ?_
   | refine LeO.bind ?_ (fun _ => ?_)
  ·intro y0 y1 y2 y3 y4
   unfold transposallaw08_CalendarChecks.j4
   repeat' first
   | (with_reducible exact ih0 _ _ _ _ _ _ _ _)
   | (with_reducible exact ih1 _ _ _ _)
   | (with_reducible exact ih2 _ _ _ _ _)
   | (with_reducible exact ih3 _ _ _ _ _ _ _ _)
   | (with_reducible exact ih4 _ _ _ _ _ _ _ _ _ _ _)
   | (with_reducible exact calendar_Calendar_Check.mono _ _ _)
   | (with_reducible exact transposallaw04_Number.mono _ _ _ _)
   | (with_reducible exact transposallaw08_Awake.mono _)
   | (with_reducible exact LeO.refl _)
   | (with_reducible exact LeO.none _)
   | (with_reducible refine LeO.ite ?_ ?_)
   | (with_reducible refine LeO.bind ?_ (fun _ => ?_))
   | exact ih0 _ _ _ _ _ _ _ _
   | exact ih1 _ _ _ _
   | exact ih2 _ _ _ _ _
   | exact ih3 _ _ _ _ _ _ _ _
   | exact ih4 _ _ _ _ _ _ _ _ _ _ _
   | exact calendar_Calendar_Check.mono _ _ _
   | exact transposallaw04_Number.mono _ _ _ _
   | exact transposallaw08_Awake.mono _
   | exact LeO.none _
   | refine LeO.ite ?_ ?_
   | refine LeO.bind ?_ (fun _ => ?_)
  ·intro y0 y1 y2 y3 y4 y5 y6 y7
   unfold transposallaw08_CalendarChecks.l1
   repeat' first
   | (with_reducible exact ih0 _ _ _ _ _ _ _ _)
   | (with_reducible exact ih1 _ _ _ _)
   | (with_reducible exact ih2 _ _ _ _ _)
   | (with_reducible exact ih3 _ _ _ _ _ _ _ _)
   | (with_reducible exact ih4 _ _ _ _ _ _ _ _ _ _ _)
   | (with_reducible exact calendar_Calendar_Check.mono _ _ _)
   | (with_reducible exact transposallaw04_Number.mono _ _ _ _)
   | (with_reducible exact transposallaw08_Awake.mono _)
   | (with_reducible exact LeO.refl _)
   | (with_reducible exact LeO.none _)
   | (with_reducible refine LeO.ite ?_ ?_)
   | (with_reducible refine LeO.bind ?_ (fun _ => ?_))
   | exact ih0 _ _ _ _ _ _ _ _
   | exact ih1 _ _ _ _
   | exact ih2 _ _ _ _ _
   | exact ih3 _ _ _ _ _ _ _ _
   | exact ih4 _ _ _ _ _ _ _ _ _ _ _
   | exact calendar_Calendar_Check.mono _ _ _
   | exact transposallaw04_Number.mono _ _ _ _
   | exact transposallaw08_Awake.mono _
   | exact LeO.none _
   | refine LeO.ite ?_ ?_
   | refine LeO.bind ?_ (fun _ => ?_)
  ·intro y0 y1 y2 y3 y4 y5 y6 y7 y8 y9 y10
   unfold transposallaw08_CalendarChecks.j2
   repeat' first
   | (with_reducible exact ih0 _ _ _ _ _ _ _ _)
   | (with_reducible exact ih1 _ _ _ _)
   | (with_reducible exact ih2 _ _ _ _ _)
   | (with_reducible exact ih3 _ _ _ _ _ _ _ _)
   | (with_reducible exact ih4 _ _ _ _ _ _ _ _ _ _ _)
   | (with_reducible exact calendar_Calendar_Check.mono _ _ _)
   | (with_reducible exact transposallaw04_Number.mono _ _ _ _)
   | (with_reducible exact transposallaw08_Awake.mono _)
   | (with_reducible exact LeO.refl _)
   | (with_reducible exact LeO.none _)
   | (with_reducible refine LeO.ite ?_ ?_)
   | (with_reducible refine LeO.bind ?_ (fun _ => ?_))
   | exact ih0 _ _ _ _ _ _ _ _
   | exact ih1 _ _ _ _
   | exact ih2 _ _ _ _ _
   | exact ih3 _ _ _ _ _ _ _ _
   | exact ih4 _ _ _ _ _ _ _ _ _ _ _
   | exact calendar_Calendar_Check.mono _ _ _
   | exact transposallaw04_Number.mono _ _ _ _
   | exact transposallaw08_Awake.mono _
   | exact LeO.none _
   | refine LeO.ite ?_ ?_
   | refine LeO.bind ?_ (fun _ => ?_)
theorem transposallaw08_CalendarChecks.mono : ∀ a0 a1 a2 k, LeO (transposallaw08_CalendarChecks.f k a0 a1 a2) (transposallaw08_CalendarChecks.f (k + 1) a0 a1 a2) := by
 intro a0 a1 a2 k
 obtain ⟨ih0, ih1, ih2, ih3, ih4⟩ := transposallaw08_CalendarChecks.mono_l k
 unfold transposallaw08_CalendarChecks.f
 repeat' first
   | (with_reducible exact ih0 _ _ _ _ _ _ _ _)
   | (with_reducible exact ih1 _ _ _ _)
   | (with_reducible exact ih2 _ _ _ _ _)
   | (with_reducible exact ih3 _ _ _ _ _ _ _ _)
   | (with_reducible exact ih4 _ _ _ _ _ _ _ _ _ _ _)
   | (with_reducible exact calendar_Calendar_Check.mono _ _ _)
   | (with_reducible exact transposallaw04_Number.mono _ _ _ _)
   | (with_reducible exact transposallaw08_Awake.mono _)
   | (with_reducible exact LeO.refl _)
   | (with_reducible exact LeO.none _)
   | (with_reducible refine LeO.ite ?_ ?_)
   | (with_reducible refine LeO.bind ?_ (fun _ => ?_))
   | exact ih0 _ _ _ _ _ _ _ _
   | exact ih1 _ _ _ _
   | exact ih2 _ _ _ _ _
   | exact ih3 _ _ _ _ _ _ _ _
   | exact ih4 _ _ _ _ _ _ _ _ _ _ _
   | exact calendar_Calendar_Check.mono _ _ _
   | exact transposallaw04_Number.mono _ _ _ _
   | exact transposallaw08_Awake.mono _
   | exact LeO.none _
   | refine LeO.ite ?_ ?_
   | refine LeO.bind ?_ (fun _ => ?_)
def transposallaw08_CalendarChecks.T15 : Bool × List (List Nat × List Nat) := (true, [([], []), ([0], [0]), ([1], [1]), ([], []), ([3], [3]), ([4], [4]), ([2, 5, 2], [2, 5]), ([6, 6, 0, 1, 2, 3, 4, 5, 6], [6])])
def transposallaw08_CalendarChecks.B15 : List Nat := [0, 1, 3, 0, 8, 24, 63, 127]
theorem transposallaw08_CalendarChecks.tab15 : rtab .any (opsOf Tryz.f6 15) = transposallaw08_CalendarChecks.T15 := by kernel_rfl
theorem transposallaw08_CalendarChecks.bits15 : waitsOk transposallaw08_CalendarChecks.T15.2 transposallaw08_CalendarChecks.B15 = true := by kernel_rfl
set_option maxHeartbeats 8000000 in
set_option maxRecDepth 100000 in
theorem transposallaw08_CalendarChecks.calls (k : Nat) (A0 : Option Addr) (c0 : Nat) (l0 : List Int) (a1 : Int) (a2 : Bool) (r : Bool) (w : World) (hr0 : Kd.C (Kd.int .i32) w A0 l0.length l0) (hc0 : l0.length ≤ c0) (hG : Glob w) (h : transposallaw08_CalendarChecks.f k l0 a1 a2 = some r) :
  Calls Tryz.prog 6 #[.slice A0 l0.length c0, .int .i32 a1, .bool a2] w fun e w' => e = .returned (.bool r) ∧ Below w.heap.size w w' := by
 have hu28 := Tryz.underlying28
 have HG := Aside0.mk hG
 clear hG
 have HR0 := Aside0.mk hr0
 have HC0 := Aside0.mk hc0
 clear hr0 hc0
 have HB := Aside0.mk (Below.refl w.heap.size w)
 have H : ((transposallaw08_Awake.f k).bind fun t376 => (if t376 = true then (if (l0.length : Int) > 70 then (some true) else (transposallaw08_CalendarChecks.l0 k l0 a1 a2 l0 (l0.length : Int) 0 ([] : List Int) 0)) else (some false))) = some r := h
 clear h
 replace H := Option.bind_eq_some_iff.mp H
 obtain ⟨t376, A40, H⟩ := H
 replace H : (if t376 = true then (if (l0.length : Int) > 70 then (some true) else (transposallaw08_CalendarChecks.l0 k l0 a1 a2 l0 (l0.length : Int) 0 ([] : List Int) 0)) else (some false)) = some r := H
 have A4 := Aside0.mk A40
 clear A40
 by_cases c5 : t376 = true
 ·subst c5
  have H1 : (if (l0.length : Int) > 70 then (some true) else (transposallaw08_CalendarChecks.l0 k l0 a1 a2 l0 (l0.length : Int) 0 ([] : List Int) 0)) = some r := by rw [if_pos rfl] at H; exact H
  clear H
  have H := H1
  clear H1
  by_cases c6 : (l0.length : Int) > 70
  ·rw [if_pos c6] at H
   have c6b0 : decide (70 < (l0.length : Int)) = true := decide_eq_true c6
   have c6b1 : decide (70 < l0.length) = true := decide_eq_true (by omega)
   clear c6
   obtain rfl := Option.some.inj H
   go_enter Tryz.func6, Tryz.ntmps6
   go_wp2_with (first | ((with_reducible refine gate_callee (f := 12) rfl ?_); refine goesL_ (some 14) rfl rfl Tryz.func12 (by kernel_rfl) rfl #[] rfl (by (try simp only [List.map_toArray, List.map_cons, List.map_nil]); first | done | rfl | (simp only [List.length_drop, List.length_take]; rfl)) ?_; (with_reducible refine (transposallaw08_Awake.calls k  true _ ?side1 A4.out).mono ?_); (case side1 => exact Glob.below (by repeat (first | (with_reducible first | exact HB.out | apply below_alloc | apply pw_below_drewN | apply below_drew1) | exact HB.out)) HG.out); rintro e w7 ⟨rfl, hb⟩; refine ⟨_, rfl, ?_⟩; have n0_ := Aside0.mk (below_step (by repeat (first | (with_reducible first | exact HB.out | apply below_alloc | apply pw_below_drewN | apply below_drew1) | exact HB.out)) hb); clear HB; have HB := n0_; clear n0_; (try clear hb); (try clear hb2); (try clear hk); (try clear hi)))
   go_ret
   exact ⟨by first | rfl | (simp [errW_none, errW_some] <;> rfl) | (simp [*, errW_none, errW_some] <;> rfl), by repeat (first | (with_reducible first | exact HB.out | apply below_alloc | apply pw_below_drewN | apply below_drew1) | exact HB.out)⟩
  ·rw [if_neg c6] at H
   have c6b0 : decide (70 < (l0.length : Int)) = false := decide_eq_false c6
   have c6b1 : decide (70 < l0.length) = false := decide_eq_false (by omega)
   clear c6
   have H' := Aside0.mk H
   clear H
   go_enter Tryz.func6, Tryz.ntmps6
   go_wp2_with (first | ((with_reducible refine gate_callee (f := 12) rfl ?_); refine goesL_ (some 14) rfl rfl Tryz.func12 (by kernel_rfl) rfl #[] rfl (by (try simp only [List.map_toArray, List.map_cons, List.map_nil]); first | done | rfl | (simp only [List.length_drop, List.length_take]; rfl)) ?_; (with_reducible refine (transposallaw08_Awake.calls k  true _ ?side1 A4.out).mono ?_); (case side1 => exact Glob.below (by repeat (first | (with_reducible first | exact HB.out | apply below_alloc | apply pw_below_drewN | apply below_drew1) | exact HB.out)) HG.out); rintro e w8 ⟨rfl, hb⟩; refine ⟨_, rfl, ?_⟩; have n0_ := Aside0.mk (below_step (by repeat (first | (with_reducible first | exact HB.out | apply below_alloc | apply pw_below_drewN | apply below_drew1) | exact HB.out)) hb); clear HB; have HB := n0_; clear n0_; (try clear hb); (try clear hb2); (try clear hk); (try clear hi)) | ((with_reducible refine gate_dst (N := 7) rfl ?_); (try (refine gate_guard (by rfl) ?_; dsimp only)); refine box_event ?hg (N := 7) ?hd (cs := #[.slice none 0 0, .int .i32 0]) (t := 28) ?hr ?_; (case hd => rfl); (case hg => rfl); (case hr => first | (go_simp; done) | (go_simp; rfl)); intro gb377 hg w9 hbox hb; have n0_ := Aside0.mk (below_step (by repeat (first | (with_reducible first | exact HB.out | apply below_alloc | apply pw_below_drewN | apply below_drew1) | exact HB.out)) hb); have n1_ := Aside0.mk (hbox); have n2_ := Aside0.mk ((by rw [hg]; exact (below_size (by repeat (first | (with_reducible first | exact HB.out | apply below_alloc | apply pw_below_drewN | apply below_drew1) | exact HB.out))) : w.heap.size ≤ gb377)); have n3_ := Aside0.mk ((by rw [hg]; exact (below_size (by repeat (first | (with_reducible first | exact HB.out | apply below_alloc | apply pw_below_drewN | apply below_drew1) | exact HB.out))) : w.heap.size ≤ gb377)); clear HB; have HB := n0_; have BK377 := n1_; have GW377 := n2_; have GE377 := n3_; clear n0_ n1_ n2_ n3_; clear hb hbox hg))
   go_loopg [21] k (fun kq v21 w' => ∃ (x21_1 : Int) (x378000_1 : List Int) (u378000 : Value), v21 = .int .i64 x21_1 ∧ Aside0 (transposallaw08_CalendarChecks.l0 kq l0 a1 a2 l0 (l0.length : Int) x21_1 x378000_1 0 = some r) ∧ Aside0 (kq ≤ k) ∧ Aside0 (Kd.R (Kd.int .i32) 26 w' w.heap.size (fun _ => True) u378000 x378000_1) ∧ Aside0 (w'.heap[gb377]? = some (.cells #[u378000, .int .i32 0] 28 (0, 0))) ∧ Aside0 (Below w.heap.size w w'))
   case atStart => exact ⟨(0), (([] : List Int)), (.slice none 0 0), (by first | rfl | (simp; done) | (simp [*]; done)), H', ⟨Nat.le_refl _⟩, ⟨by first | exact Kd.R_nil _ _ _ _ _ | exact Kd.N_nil _ _ _ _ _ | exact Kd.V_nil _ _ _ _ _ | exact Kd.Q_nil _ _ _ _ _ | exact Kd.S_nil _ _ _ _ _⟩, ⟨by (with_reducible repeat (first | refine blk_drewN ?_ _ | refine blk_drew ?_ | refine blk_alloc ?_ _)); exact BK377.out⟩, ⟨by repeat (first | (with_reducible first | exact HB.out | apply below_alloc | apply pw_below_drewN | apply below_drew1 | refine below_set ?_ GE377.out) | exact HB.out)⟩⟩
   case round =>
    clear H'
    try clear c1
    try clear p2
    try clear c5
    try clear c6
    try clear c6b0
    try clear c6b1
    obtain ⟨x21_1, x378000_1, u378000, rfl, HA, HK1, HO_378000, BK377, HB⟩ := hrel
    cases gk with
    | zero => exact absurd HA.out (by simp [transposallaw08_CalendarChecks.l0])
    | succ k1 =>
     have H := HA.out
     clear HA
     simp only [transposallaw08_CalendarChecks.l0] at H
     by_cases c10 : x21_1 < (l0.length : Int)
     ·rw [if_pos c10] at H
      have c10b0 : decide (x21_1 < (l0.length : Int)) = true := decide_eq_true c10
      clear c10
      by_cases c11 : 0 ≤ x21_1
      ·rw [if_pos c11] at H
       have c11b0 : decide (0 ≤ x21_1) = true := decide_eq_true c11
       clear c11
       by_cases c12 : x21_1 < (l0.length : Int)
       ·rw [if_pos c12] at H
        have c12b0 : decide (x21_1 < (l0.length : Int)) = true := decide_eq_true c12
        clear c12
        by_cases c13 : a2 = true
        ·subst c13
         have H1 : ((some (([rd l0 x21_1] : List Int) : List Int)).bind fun y379 => (if x378000_1.length + y379.length < 35184372088832 then (transposallaw08_CalendarChecks.l0 k1 l0 a1 true l0 (l0.length : Int) (wrap64 (x21_1 + 1)) (x378000_1 ++ y379) 0) else (none))) = some r := by rw [if_pos rfl] at H; exact H
         clear H
         have H := H1
         clear H1
         obtain ⟨y379, hy379⟩ : ∃ y_ : List Int, y_ = (([rd l0 x21_1] : List Int)) := ⟨_, rfl⟩
         replace H : (if x378000_1.length + y379.length < 35184372088832 then (transposallaw08_CalendarChecks.l0 k1 l0 a1 true l0 (l0.length : Int) (wrap64 (x21_1 + 1)) (x378000_1 ++ y379) 0) else (none)) = some r := by first | (rw [hy379]; with_reducible exact H) | (have H2_ := (Option.bind_some _ _).symm.trans H; rw [hy379]; with_reducible exact H2_) | (have H2_ := (Option.bind_some _ _).symm.trans H; with_reducible exact H2_) | with_reducible exact H | (rw [hy379]; exact H) | exact H
         have Ny379 := Aside0.mk hy379
         clear hy379
         by_cases c14 : x378000_1.length + y379.length < 35184372088832
         ·rw [if_pos c14] at H
          have LMc14 := Aside0.mk c14
          clear c14
          obtain ⟨y382, hy382⟩ : ∃ y_ : List Int, y_ = (x378000_1 ++ y379) := ⟨_, rfl⟩
          replace H : (transposallaw08_CalendarChecks.l0 k1 l0 a1 true l0 (l0.length : Int) (wrap64 (x21_1 + 1)) y382 0) = some r := by first | (rw [hy382]; with_reducible exact H) | (have H2_ := (Option.bind_some _ _).symm.trans H; rw [hy382]; with_reducible exact H2_) | (have H2_ := (Option.bind_some _ _).symm.trans H; with_reducible exact H2_) | with_reducible exact H | (rw [hy382]; exact H) | exact H
          have Ny382 := Aside0.mk hy382
          clear hy382
          have H' := Aside0.mk H
          clear H
          have p378 : 0 ≤ (x21_1 : Int) := of_decide_eq_true (by first | (with_reducible assumption) | assumption)
          have q378 : x21_1 < (l0.length : Int) := of_decide_eq_true (by first | (with_reducible assumption) | assumption)
          obtain ⟨ad378, e378, hx378_0⟩ := Kd.at_int HR0.out x21_1 p378 q378
          cases e378
          replace hx378_0 := (HB.out.cell (World.block_lt_of_cell? w _ hx378_0)).trans hx378_0
          replace p378 := eq_true p378
          replace q378 := eq_true q378
          have hcz15_0 : wr.cell? ⟨gb377, 0, none⟩ = some (u378000) := (blk_cell BK377.out 0).trans rfl
          have hcz15_1 : wr.cell? ⟨gb377, 1, none⟩ = some (.int .i32 0) := (blk_cell BK377.out 1).trans rfl
          have hfz15_0 := blk_frozen BK377.out 0
          have hfz15_1 := blk_frozen BK377.out 1
          go_wp2_with (first | ((with_reducible refine gate_dst (N := 32) rfl ?_); (try (refine gate_guard (by rfl) ?_; dsimp only)); refine Kd.R_lit (Kd.int .i32) _ 26 ?hg (N := 32) ?hd (xs := ([rd l0 x21_1] : List Int)) (inner := [.int .i32 (rd l0 x21_1)]) (ok := fun _ => True) (okp := fun _ => True) ?hr ?hp (fun _ hk => hk) trivial (Below.refl _ _) (Nat.le_refl _) (by simp) ?_; (case hd => rfl); (case hg => rfl); (case hr => first | (go_simp; done) | (go_simp; rfl)); (case hp => exact (Reps.one (show Kd.M (Kd.int .i32) _ _ _ (rd l0 x21_1) [.int .i32 (rd l0 x21_1)] from rfl) (Reps.none _ _))); intro v380 w16 ho17 hb hg_ hnew_; clear hg_ hnew_; (first | rw [← Ny379.out] at ho17 | (simp only [Int.reduceToNat] at ho17; rw [← Ny379.out] at ho17)); have n0_ := Aside0.mk (Kd.R_elder' (by (with_reducible repeat (first | apply Kd.R_alloc | apply Kd.R_drewN | apply Kd.R_drew)); exact HO_378000.out) (Kd.R_base ho17) hb); have n1_ := Aside0.mk (Kd.R_lower (Kd.R_new' ho17 (Kd.R_lt (by (with_reducible repeat (first | apply Kd.R_alloc | apply Kd.R_drewN | apply Kd.R_drew)); exact HO_378000.out))) (below_size (by repeat (first | (with_reducible first | exact HB.out | apply below_alloc | apply pw_below_drewN | apply below_drew1 | refine below_set ?_ GE377.out) | exact HB.out)))); have n2_ := Aside0.mk (blk_below (g := gb377) (o := .cells #[u378000, .int .i32 0] 28 (0, 0)) (by (with_reducible repeat (first | refine blk_drewN ?_ _ | refine blk_drew ?_ | refine blk_alloc ?_ _)); exact BK377.out) hb); have n3_ := Aside0.mk (below_step (by repeat (first | (with_reducible first | exact HB.out | apply below_alloc | apply pw_below_drewN | apply below_drew1 | refine below_set ?_ GE377.out) | exact HB.out)) hb); clear HO_378000; clear BK377; clear HB; have HO_378000 := n0_; have HO381 := n1_; have BK377 := n2_; have HB := n3_; clear n0_ n1_ n2_ n3_; clear hb ho17; obtain ⟨Ao19, co19, eo19⟩ := Kd.R_slice HO381.out; subst eo19) | ((with_reducible refine gate_builtin (b := .append) (xs := #[.tmp 30, .tmp 32]) rfl ?_); (try (refine gate_guard (by rfl) ?_; dsimp only)); at_builtin; refine Kd.R_append_rows (Kd.int .i32) (w0 := w) w.heap.size rfl (.tmp 30) (.tmp 32) 25 26 (.int .i32 0) 4 rfl Tryz.underlying25 info26 rfl (by decide) (by omega) u378000 x378000_1 y379 _ _ _ (fun k_ => some k_ ≠ (.slice Ao19 y379.length co19 : Value).ownBlock) (fun _ => False) rfl rfl ?aO ?aR (fun _ _ h => h) (fun _ h => h.elim) ?aF ?aB ?aS ?aL ?_; (case aR => repeat (first | exact (Kd.R_reads' HO381.out).2.2 | (with_reducible refine Kd.C_alloc ?_ _) | (with_reducible refine Kd.C_drewN ?_ _) | (with_reducible refine Kd.C_drew ?_))); (case aB => exact (by repeat (first | (with_reducible first | exact HB.out | apply below_alloc | apply pw_below_drewN | apply below_drew1 | refine below_set ?_ GE377.out) | exact HB.out))); (case aF => exact (fun k_ hk => Kd.fresh' (Kd.R_lt (by (with_reducible repeat (first | apply Kd.R_alloc | apply Kd.R_drewN | apply Kd.R_drew)); exact HO381.out)) k_ hk)); (case aO => exact (by (with_reducible repeat (first | apply Kd.R_alloc | apply Kd.R_drewN | apply Kd.R_drew)); exact Kd.R_mono HO_378000.out (fun _ hk => hk.2))); (case aS => exact (below_size (by repeat (first | (with_reducible first | exact HB.out | apply below_alloc | apply pw_below_drewN | apply below_drew1 | refine below_set ?_ GE377.out) | exact HB.out)))); (case aL => have := LMc14.out; omega); intro v383 w18 ho hb hg hat; rw [← Ny382.out] at ho; have n0_ := Aside0.mk (blk_grown (g := gb377) (o := .cells #[u378000, .int .i32 0] 28 (0, 0)) (by (with_reducible repeat (first | refine blk_drewN ?_ _ | refine blk_drew ?_ | refine blk_alloc ?_ _)); exact BK377.out) hg (Kd.R_ne HO_378000.out BK377.out (by decide))); have n1_ := Aside0.mk (Kd.R_after (ok := (fun _ => True)) (by (with_reducible repeat (first | apply Kd.R_alloc | apply Kd.R_drewN | apply Kd.R_drew)); exact HO381.out) hg hat); have n2_ := Aside0.mk (hb); have n3_ := Aside0.mk (ho); clear BK377; clear HO381; clear HB; clear HO_378000; have BK377 := n0_; have HO381 := n1_; have HB := n2_; have HO384 := n3_; clear n0_ n1_ n2_ n3_; clear ho hb hg hat; obtain ⟨Ao20, co20, eo20⟩ := Kd.R_slice HO384.out; subst eo20; have hcz21_0 : w18.cell? ⟨gb377, 0, none⟩ = some (u378000) := (blk_cell BK377.out 0).trans rfl; have hcz21_1 : w18.cell? ⟨gb377, 1, none⟩ = some (.int .i32 0) := (blk_cell BK377.out 1).trans rfl; have hfz21_0 := blk_frozen BK377.out 0; have hfz21_1 := blk_frozen BK377.out 1))
          go_roundg k1
          case measure => have := HK1.out; omega
          case rel => exact ⟨(wrap64 (x21_1 + 1)), (y382), (.slice Ao20 y382.length co20), (by first | rfl | (simp; done) | (simp [*]; done)), H', ⟨by have := HK1.out; omega⟩, ⟨by (with_reducible repeat (first | apply Kd.R_alloc | apply Kd.R_drewN | apply Kd.R_drew)); exact Kd.R_mono (Kd.R_far (p := ⟨gb377, 0, none⟩) (Kd.R_types HO384.out BK377.out (by decide)) (fun _ hk => hk.2) (.slice Ao20 y382.length co20)) (fun _ hk => trivial)⟩, ⟨by (with_reducible repeat (first | refine blk_drewN ?_ _ | refine blk_drew ?_ | refine blk_alloc ?_ _)); refine blk_put (cs := #[u378000, .int .i32 0]) ?_ 0 _ rfl; (with_reducible repeat (first | refine blk_drewN ?_ _ | refine blk_drew ?_ | refine blk_alloc ?_ _)); exact BK377.out⟩, ⟨by repeat (first | (with_reducible first | exact HB.out | apply below_alloc | apply pw_below_drewN | apply below_drew1 | refine below_set ?_ GE377.out) | exact HB.out)⟩⟩
         ·rw [if_neg c14] at H
          exact absurd H (by simp)
        ·replace c13 := Bool.eq_false_iff.mpr c13
         subst c13
         have H1 : ((some (([Int.tmod (rd l0 x21_1) 100000] : List Int) : List Int)).bind fun y385 => (if x378000_1.length + y385.length < 35184372088832 then (transposallaw08_CalendarChecks.l0 k1 l0 a1 false l0 (l0.length : Int) (wrap64 (x21_1 + 1)) (x378000_1 ++ y385) 0) else (none))) = some r := by rw [if_neg (show ¬ (false = true) by decide)] at H; exact H
         clear H
         have H := H1
         clear H1
         obtain ⟨y385, hy385⟩ : ∃ y_ : List Int, y_ = (([Int.tmod (rd l0 x21_1) 100000] : List Int)) := ⟨_, rfl⟩
         replace H : (if x378000_1.length + y385.length < 35184372088832 then (transposallaw08_CalendarChecks.l0 k1 l0 a1 false l0 (l0.length : Int) (wrap64 (x21_1 + 1)) (x378000_1 ++ y385) 0) else (none)) = some r := by first | (rw [hy385]; with_reducible exact H) | (have H2_ := (Option.bind_some _ _).symm.trans H; rw [hy385]; with_reducible exact H2_) | (have H2_ := (Option.bind_some _ _).symm.trans H; with_reducible exact H2_) | with_reducible exact H | (rw [hy385]; exact H) | exact H
         have Ny385 := Aside0.mk hy385
         clear hy385
         by_cases c22 : x378000_1.length + y385.length < 35184372088832
         ·rw [if_pos c22] at H
          have LMc22 := Aside0.mk c22
          clear c22
          obtain ⟨y388, hy388⟩ : ∃ y_ : List Int, y_ = (x378000_1 ++ y385) := ⟨_, rfl⟩
          replace H : (transposallaw08_CalendarChecks.l0 k1 l0 a1 false l0 (l0.length : Int) (wrap64 (x21_1 + 1)) y388 0) = some r := by first | (rw [hy388]; with_reducible exact H) | (have H2_ := (Option.bind_some _ _).symm.trans H; rw [hy388]; with_reducible exact H2_) | (have H2_ := (Option.bind_some _ _).symm.trans H; with_reducible exact H2_) | with_reducible exact H | (rw [hy388]; exact H) | exact H
          have Ny388 := Aside0.mk hy388
          clear hy388
          have H' := Aside0.mk H
          clear H
          have p378 : 0 ≤ (x21_1 : Int) := of_decide_eq_true (by first | (with_reducible assumption) | assumption)
          have q378 : x21_1 < (l0.length : Int) := of_decide_eq_true (by first | (with_reducible assumption) | assumption)
          obtain ⟨ad378, e378, hx378_0⟩ := Kd.at_int HR0.out x21_1 p378 q378
          cases e378
          replace hx378_0 := (HB.out.cell (World.block_lt_of_cell? w _ hx378_0)).trans hx378_0
          replace p378 := eq_true p378
          replace q378 := eq_true q378
          have hcz23_0 : wr.cell? ⟨gb377, 0, none⟩ = some (u378000) := (blk_cell BK377.out 0).trans rfl
          have hcz23_1 : wr.cell? ⟨gb377, 1, none⟩ = some (.int .i32 0) := (blk_cell BK377.out 1).trans rfl
          have hfz23_0 := blk_frozen BK377.out 0
          have hfz23_1 := blk_frozen BK377.out 1
          go_wp2_with (first | ((with_reducible refine gate_dst (N := 32) rfl ?_); (try (refine gate_guard (by rfl) ?_; dsimp only)); refine Kd.R_lit (Kd.int .i32) _ 26 ?hg (N := 32) ?hd (xs := ([Int.tmod (rd l0 x21_1) 100000] : List Int)) (inner := [.int .i32 (Int.tmod (rd l0 x21_1) 100000)]) (ok := fun _ => True) (okp := fun _ => True) ?hr ?hp (fun _ hk => hk) trivial (Below.refl _ _) (Nat.le_refl _) (by simp) ?_; (case hd => rfl); (case hg => rfl); (case hr => first | (go_simp; done) | (go_simp; rfl)); (case hp => exact (Reps.one (show Kd.M (Kd.int .i32) _ _ _ (Int.tmod (rd l0 x21_1) 100000) [.int .i32 (Int.tmod (rd l0 x21_1) 100000)] from rfl) (Reps.none _ _))); intro v386 w24 ho25 hb hg_ hnew_; clear hg_ hnew_; (first | rw [← Ny385.out] at ho25 | (simp only [Int.reduceToNat] at ho25; rw [← Ny385.out] at ho25)); have n0_ := Aside0.mk (Kd.R_elder' (by (with_reducible repeat (first | apply Kd.R_alloc | apply Kd.R_drewN | apply Kd.R_drew)); exact HO_378000.out) (Kd.R_base ho25) hb); have n1_ := Aside0.mk (Kd.R_lower (Kd.R_new' ho25 (Kd.R_lt (by (with_reducible repeat (first | apply Kd.R_alloc | apply Kd.R_drewN | apply Kd.R_drew)); exact HO_378000.out))) (below_size (by repeat (first | (with_reducible first | exact HB.out | apply below_alloc | apply pw_below_drewN | apply below_drew1 | refine below_set ?_ GE377.out) | exact HB.out)))); have n2_ := Aside0.mk (blk_below (g := gb377) (o := .cells #[u378000, .int .i32 0] 28 (0, 0)) (by (with_reducible repeat (first | refine blk_drewN ?_ _ | refine blk_drew ?_ | refine blk_alloc ?_ _)); exact BK377.out) hb); have n3_ := Aside0.mk (below_step (by repeat (first | (with_reducible first | exact HB.out | apply below_alloc | apply pw_below_drewN | apply below_drew1 | refine below_set ?_ GE377.out) | exact HB.out)) hb); clear HO_378000; clear BK377; clear HB; have HO_378000 := n0_; have HO387 := n1_; have BK377 := n2_; have HB := n3_; clear n0_ n1_ n2_ n3_; clear hb ho25; obtain ⟨Ao27, co27, eo27⟩ := Kd.R_slice HO387.out; subst eo27) | ((with_reducible refine gate_builtin (b := .append) (xs := #[.tmp 30, .tmp 32]) rfl ?_); (try (refine gate_guard (by rfl) ?_; dsimp only)); at_builtin; refine Kd.R_append_rows (Kd.int .i32) (w0 := w) w.heap.size rfl (.tmp 30) (.tmp 32) 25 26 (.int .i32 0) 4 rfl Tryz.underlying25 info26 rfl (by decide) (by omega) u378000 x378000_1 y385 _ _ _ (fun k_ => some k_ ≠ (.slice Ao27 y385.length co27 : Value).ownBlock) (fun _ => False) rfl rfl ?aO ?aR (fun _ _ h => h) (fun _ h => h.elim) ?aF ?aB ?aS ?aL ?_; (case aR => repeat (first | exact (Kd.R_reads' HO387.out).2.2 | (with_reducible refine Kd.C_alloc ?_ _) | (with_reducible refine Kd.C_drewN ?_ _) | (with_reducible refine Kd.C_drew ?_))); (case aB => exact (by repeat (first | (with_reducible first | exact HB.out | apply below_alloc | apply pw_below_drewN | apply below_drew1 | refine below_set ?_ GE377.out) | exact HB.out))); (case aF => exact (fun k_ hk => Kd.fresh' (Kd.R_lt (by (with_reducible repeat (first | apply Kd.R_alloc | apply Kd.R_drewN | apply Kd.R_drew)); exact HO387.out)) k_ hk)); (case aO => exact (by (with_reducible repeat (first | apply Kd.R_alloc | apply Kd.R_drewN | apply Kd.R_drew)); exact Kd.R_mono HO_378000.out (fun _ hk => hk.2))); (case aS => exact (below_size (by repeat (first | (with_reducible first | exact HB.out | apply below_alloc | apply pw_below_drewN | apply below_drew1 | refine below_set ?_ GE377.out) | exact HB.out)))); (case aL => have := LMc22.out; omega); intro v389 w26 ho hb hg hat; rw [← Ny388.out] at ho; have n0_ := Aside0.mk (blk_grown (g := gb377) (o := .cells #[u378000, .int .i32 0] 28 (0, 0)) (by (with_reducible repeat (first | refine blk_drewN ?_ _ | refine blk_drew ?_ | refine blk_alloc ?_ _)); exact BK377.out) hg (Kd.R_ne HO_378000.out BK377.out (by decide))); have n1_ := Aside0.mk (Kd.R_after (ok := (fun _ => True)) (by (with_reducible repeat (first | apply Kd.R_alloc | apply Kd.R_drewN | apply Kd.R_drew)); exact HO387.out) hg hat); have n2_ := Aside0.mk (hb); have n3_ := Aside0.mk (ho); clear BK377; clear HO387; clear HB; clear HO_378000; have BK377 := n0_; have HO387 := n1_; have HB := n2_; have HO390 := n3_; clear n0_ n1_ n2_ n3_; clear ho hb hg hat; obtain ⟨Ao28, co28, eo28⟩ := Kd.R_slice HO390.out; subst eo28; have hcz29_0 : w26.cell? ⟨gb377, 0, none⟩ = some (u378000) := (blk_cell BK377.out 0).trans rfl; have hcz29_1 : w26.cell? ⟨gb377, 1, none⟩ = some (.int .i32 0) := (blk_cell BK377.out 1).trans rfl; have hfz29_0 := blk_frozen BK377.out 0; have hfz29_1 := blk_frozen BK377.out 1))
          go_roundg k1
          case measure => have := HK1.out; omega
          case rel => exact ⟨(wrap64 (x21_1 + 1)), (y388), (.slice Ao28 y388.length co28), (by first | rfl | (simp; done) | (simp [*]; done)), H', ⟨by have := HK1.out; omega⟩, ⟨by (with_reducible repeat (first | apply Kd.R_alloc | apply Kd.R_drewN | apply Kd.R_drew)); exact Kd.R_mono (Kd.R_far (p := ⟨gb377, 0, none⟩) (Kd.R_types HO390.out BK377.out (by decide)) (fun _ hk => hk.2) (.slice Ao28 y388.length co28)) (fun _ hk => trivial)⟩, ⟨by (with_reducible repeat (first | refine blk_drewN ?_ _ | refine blk_drew ?_ | refine blk_alloc ?_ _)); refine blk_put (cs := #[u378000, .int .i32 0]) ?_ 0 _ rfl; (with_reducible repeat (first | refine blk_drewN ?_ _ | refine blk_drew ?_ | refine blk_alloc ?_ _)); exact BK377.out⟩, ⟨by repeat (first | (with_reducible first | exact HB.out | apply below_alloc | apply pw_below_drewN | apply below_drew1 | refine below_set ?_ GE377.out) | exact HB.out)⟩⟩
         ·rw [if_neg c22] at H
          exact absurd H (by simp)
       ·rw [if_neg c12] at H
        exact absurd H (by simp)
      ·rw [if_neg c11] at H
       exact absurd H (by simp)
     ·rw [if_neg c10] at H
      have c10b0 : decide (x21_1 < (l0.length : Int)) = false := decide_eq_false c10
      clear c10
      replace H := Option.bind_eq_some_iff.mp H
      obtain ⟨t391, A300, H⟩ := H
      replace H : ((some (([a1] : List Int) : List Int)).bind fun y394 => (if t391.length + y394.length < 35184372088832 then ((some (t391 ++ y394 : List Int)).bind fun y397 => (transposallaw08_CalendarChecks.l1 k1 l0 0 y397 y397 (y397.length : Int) 0 x378000_1 a1)) else (none))) = some r := H
      have A30 := Aside0.mk A300
      clear A300
      obtain ⟨y394, hy394⟩ : ∃ y_ : List Int, y_ = (([a1] : List Int)) := ⟨_, rfl⟩
      replace H : (if t391.length + y394.length < 35184372088832 then ((some (t391 ++ y394 : List Int)).bind fun y397 => (transposallaw08_CalendarChecks.l1 k1 l0 0 y397 y397 (y397.length : Int) 0 x378000_1 a1)) else (none)) = some r := by first | (rw [hy394]; with_reducible exact H) | (have H2_ := (Option.bind_some _ _).symm.trans H; rw [hy394]; with_reducible exact H2_) | (have H2_ := (Option.bind_some _ _).symm.trans H; with_reducible exact H2_) | with_reducible exact H | (rw [hy394]; exact H) | exact H
      have Ny394 := Aside0.mk hy394
      clear hy394
      by_cases c31 : t391.length + y394.length < 35184372088832
      ·rw [if_pos c31] at H
       have LMc31 := Aside0.mk c31
       clear c31
       obtain ⟨y397, hy397⟩ : ∃ y_ : List Int, y_ = (t391 ++ y394) := ⟨_, rfl⟩
       replace H : (transposallaw08_CalendarChecks.l1 k1 l0 0 y397 y397 (y397.length : Int) 0 x378000_1 a1) = some r := by first | (rw [hy397]; with_reducible exact H) | (have H2_ := (Option.bind_some _ _).symm.trans H; rw [hy397]; with_reducible exact H2_) | (have H2_ := (Option.bind_some _ _).symm.trans H; with_reducible exact H2_) | with_reducible exact H | (rw [hy397]; exact H) | exact H
       have Ny397 := Aside0.mk hy397
       clear hy397
       have HC32 := Aside0.mk H
       clear H
       have hcz33_0 : wr.cell? ⟨gb377, 0, none⟩ = some (u378000) := (blk_cell BK377.out 0).trans rfl
       have hcz33_1 : wr.cell? ⟨gb377, 1, none⟩ = some (.int .i32 0) := (blk_cell BK377.out 1).trans rfl
       have hfz33_0 := blk_frozen BK377.out 0
       have hfz33_1 := blk_frozen BK377.out 1
       obtain ⟨Ao34, co34, eo34⟩ := Kd.R_slice HO_378000.out
       subst eo34
       try go_wp2
       have n0_ : Aside0 (Kd.R (Kd.int .i32) 26 (wr.setCell ⟨gb377, 1, none⟩ (.int .i32 a1)) w.heap.size (fun _ => True) (.slice Ao34 x378000_1.length co34) x378000_1) := ⟨by (with_reducible repeat (first | apply Kd.R_alloc | apply Kd.R_drewN | apply Kd.R_drew)); exact Kd.R_mono (Kd.R_far (p := ⟨gb377, 1, none⟩) (Kd.R_types HO_378000.out BK377.out (by decide)) (fun _ hk => hk.2) (.int .i32 a1)) (fun _ hk => trivial)⟩
       have n1_ : Aside0 ((wr.setCell ⟨gb377, 1, none⟩ (.int .i32 a1)).heap[gb377]? = some (.cells #[.slice Ao34 x378000_1.length co34, .int .i32 a1] 28 (0, 0))) := ⟨by (with_reducible repeat (first | refine blk_drewN ?_ _ | refine blk_drew ?_ | refine blk_alloc ?_ _)); refine blk_put (cs := #[.slice Ao34 x378000_1.length co34, .int .i32 0]) ?_ 1 _ rfl; (with_reducible repeat (first | refine blk_drewN ?_ _ | refine blk_drew ?_ | refine blk_alloc ?_ _)); exact BK377.out⟩
       have n2_ : Aside0 (Below w.heap.size w (wr.setCell ⟨gb377, 1, none⟩ (.int .i32 a1))) := ⟨by repeat (first | (with_reducible first | exact HB.out | apply below_alloc | apply pw_below_drewN | apply below_drew1 | refine below_set ?_ GE377.out) | exact HB.out)⟩
       (try clear HO_378000)
       (try clear BK377)
       (try clear HB)
       generalize (wr.setCell ⟨gb377, 1, none⟩ (.int .i32 a1)) = w35 at n0_ n1_ n2_ ⊢
       have HO_378000 := n0_
       have BK377 := n1_
       have HB := n2_
       clear n0_ n1_ n2_
       have n0_ := Aside0.mk (Kd.R_drew HO_378000.out)
       have n1_ := Aside0.mk (blk_drew BK377.out)
       have n2_ := Aside0.mk (below_drew1 HB.out)
       clear HO_378000
       clear BK377
       clear HB
       have HO_378000 := n0_
       have BK377 := n1_
       have HB := n2_
       clear n0_ n1_ n2_
       refine start_ (n := 8) (S := fun w' => w'.cell? ⟨gb377, 0, none⟩ = some (.slice Ao34 x378000_1.length co34) ∧ w'.cell? ⟨gb377, 1, none⟩ = some (.int .i32 a1)) (ds := []) #[false, false, false, false, false, false, false, false] (by kernel_rfl) rfl rfl ⟨(blk_cell BK377.out 0).trans rfl, (blk_cell BK377.out 1).trans rfl⟩ (fun hHeld => ?_); refine with_tabW transposallaw08_CalendarChecks.tab15 transposallaw08_CalendarChecks.bits15 (fun HT_ HW_ => ?_)
       generalize w35.drew = w36 at HO_378000 BK377 HB hHeld ⊢
       refine pure_ (i := 0) (N := some 38) (v := ?_) (a' := ?_) #[true, false, false, false, false, false, false, false] rfl rfl (any_of HT_.out (by kernel_rfl)) (fun _ _ _ h => h) (Or.inl ⟨by rfl, ?_⟩) ?_ ?_
       rotate_left
       ·intro w'
        go_simp
        with_reducible rfl
       rotate_left
       ·simp only [Act.put, List.setIfInBounds_toArray, List.set_cons_zero, List.set_cons_succ, i64_w, i32_w]
        rfl
       refine pure_ (i := 3) (N := some 41) (v := ?_) (a' := ?_) #[true, false, false, true, false, false, false, false] rfl rfl (any_of HT_.out (by kernel_rfl)) (fun _ _ _ h => h) (Or.inl ⟨by rfl, ?_⟩) ?_ ?_
       rotate_left
       ·intro w'
        go_simp
        with_reducible rfl
       rotate_left
       ·simp only [Act.put, List.setIfInBounds_toArray, List.set_cons_zero, List.set_cons_succ, i64_w, i32_w]
        rfl
       refine take_ (i := 1) (N := some 39) (v := ?_) (a' := ?_) #[true, true, false, true, false, false, false, false] rfl rfl (take_ofW HT_.out HW_.out (by kernel_rfl)) (fun _ _ _ h => h) (Or.inl ⟨by rfl, ?_⟩) hHeld ?_ ?_
       rotate_left
       ·rintro w' ⟨s0, s1⟩
        go_simp
        with_reducible rfl
       rotate_left
       ·simp only [Act.put, List.setIfInBounds_toArray, List.set_cons_zero, List.set_cons_succ, i64_w, i32_w]
        rfl
       refine take_ (i := 4) (N := some 42) (v := ?_) (a' := ?_) #[true, true, false, true, true, false, false, false] rfl rfl (take_ofW HT_.out HW_.out (by kernel_rfl)) (fun _ _ _ h => h) (Or.inl ⟨by rfl, ?_⟩) hHeld ?_ ?_
       rotate_left
       ·rintro w' ⟨s0, s1⟩
        go_simp
        with_reducible rfl
       rotate_left
       ·simp only [Act.put, List.setIfInBounds_toArray, List.set_cons_zero, List.set_cons_succ, i64_w, i32_w]
        rfl
       refine join_ (σ := Value × Value) 2 #[true, true, true, true, true, true, false, false] (fun s_ => [(40, s_.1), (43, s_.2)]) (fun s_ w' => (w'.cell? ⟨gb377, 0, none⟩ = some (.slice Ao34 x378000_1.length co34) ∧ w'.cell? ⟨gb377, 1, none⟩ = some (.int .i32 a1)) ∧ (Kd.R (Kd.int .i32) 26 w' w.heap.size (fun k_ => some k_ ≠ (s_.2 : Value).ownBlock ∧ some k_ ≠ (.slice Ao34 x378000_1.length co34 : Value).ownBlock) s_.1 t391) ∧ (Kd.R (Kd.int .i32) 26 w' w.heap.size (fun k_ => some k_ ≠ (s_.1 : Value).ownBlock ∧ some k_ ≠ (.slice Ao34 x378000_1.length co34 : Value).ownBlock) s_.2 y394) ∧ (Kd.R (Kd.int .i32) 26 w' w.heap.size (fun k_ => some k_ ≠ (s_.1 : Value).ownBlock ∧ some k_ ≠ (s_.2 : Value).ownBlock) (.slice Ao34 x378000_1.length co34) x378000_1) ∧ (w'.heap[gb377]? = some (.cells #[.slice Ao34 x378000_1.length co34, .int .i32 a1] 28 (0, 0))) ∧ (Below w.heap.size w w')) ?_ ?_
       rotate_left
       ·intro hCont
        refine two_ (i := 2) (j := 5) (Ni := some 40) (Nj := some 43) #[true, true, true, true, true, false, false, false] #[true, true, false, true, true, true, false, false] rfl rfl rfl rfl (two_of HT_.out (by kernel_rfl)) (by decide) (by decide) (fun K hK => ?_) (fun K hK => ?_)
        ·skip
         refine goes_ Tryz.func19 (by kernel_rfl) rfl #[.slice Ao34 x378000_1.length co34] (by rfl) rfl rfl (by (try simp only [List.map_toArray, List.map_cons, List.map_nil]); first | done | rfl | (simp only [List.length_drop, List.length_take]; rfl)) ?_
         with_reducible refine (day_Day_19.calls _ _ x378000_1 t391 _ ?side1 ?side2 A30.out).mono ?_
         (case side1 => repeat (first | exact (Kd.R_reads' HO_378000.out).2.2 | (with_reducible refine Kd.C_alloc ?_ _) | (with_reducible refine Kd.C_drewN ?_ _) | (with_reducible refine Kd.C_drew ?_)))
         (case side2 => exact (Kd.R_reads' HO_378000.out).2.1)
         rintro e w37 ⟨v392, rfl, ho0, hb⟩
         refine ⟨_, rfl, ?_⟩
         have n0_ := Aside0.mk (Kd.R_elder' (by (with_reducible repeat (first | apply Kd.R_alloc | apply Kd.R_drewN | apply Kd.R_drew)); exact HO_378000.out) (Kd.R_base ho0) hb)
         have n1_ := Aside0.mk (Kd.R_lower (Kd.R_new' ho0 (Kd.R_lt (by (with_reducible repeat (first | apply Kd.R_alloc | apply Kd.R_drewN | apply Kd.R_drew)); exact HO_378000.out))) (below_size (by repeat (first | (with_reducible first | exact HB.out | apply below_alloc | apply pw_below_drewN | apply below_drew1 | refine below_set ?_ GE377.out) | exact HB.out))))
         have n2_ := Aside0.mk (blk_below (g := gb377) (o := .cells #[.slice Ao34 x378000_1.length co34, .int .i32 a1] 28 (0, 0)) (by (with_reducible repeat (first | refine blk_drewN ?_ _ | refine blk_drew ?_ | refine blk_alloc ?_ _)); exact BK377.out) hb)
         have n3_ := Aside0.mk (below_step (by repeat (first | (with_reducible first | exact HB.out | apply below_alloc | apply pw_below_drewN | apply below_drew1 | refine below_set ?_ GE377.out) | exact HB.out)) hb)
         clear HO_378000
         clear BK377
         clear HB
         have HO_378000 := n0_
         have HO393 := n1_
         have BK377 := n2_
         have HB := n3_
         clear n0_ n1_ n2_ n3_
         (try clear hb)
         (try clear hb2)
         (try clear hk)
         (try clear hi)
         (try clear ho0)
         refine hK.out _ _ ⟨(blk_cell BK377.out 0).trans rfl, (blk_cell BK377.out 1).trans rfl⟩ (fun hHeld => ?_)
         clear hK K
         refine norm_ (a' := ?_) ?_ ?_
         rotate_left
         ·show Act.put _ (some 40) _ = _
          simp only [Act.put, List.setIfInBounds_toArray, List.set_cons_zero, List.set_cons_succ, i64_w, i32_w]
          rfl
         refine one_ (i := 5) (N := some 43) #[true, true, true, true, true, true, false, false] rfl rfl (one_of HT_.out (by kernel_rfl)) (by decide) (fun K hK => ?_)
         refine Kd.R_lit_step (Kd.int .i32) _ 26 ?hg (N := 43) ?hd (xs := ([a1] : List Int)) (inner := [.int .i32 a1]) (ok := fun _ => True) (okp := fun _ => True) ?hr ?hp (fun _ hk => hk) trivial (Below.refl _ _) (Nat.le_refl _) (by simp) ?_; (case hd => rfl); (case hg => rfl); (case hr => first | (go_simp; done) | (go_simp; rfl)); (case hp => exact (Reps.one (show Kd.M (Kd.int .i32) _ _ _ a1 [.int .i32 a1] from rfl) (Reps.none _ _)))
         intro v395 w38 ho39 hb hg_ hnew_
         clear hg_ hnew_
         (first | rw [← Ny394.out] at ho39 | (simp only [Int.reduceToNat] at ho39; rw [← Ny394.out] at ho39))
         have n0_ := Aside0.mk (Kd.R_elder' (by (with_reducible repeat (first | apply Kd.R_alloc | apply Kd.R_drewN | apply Kd.R_drew)); exact HO_378000.out) (Kd.R_base ho39) hb)
         have n1_ := Aside0.mk (Kd.R_elder' (by (with_reducible repeat (first | apply Kd.R_alloc | apply Kd.R_drewN | apply Kd.R_drew)); exact HO393.out) (Kd.R_base ho39) hb)
         have n2_ := Aside0.mk (Kd.R_lower (Kd.R_new' (Kd.R_new' ho39 (Kd.R_lt (by (with_reducible repeat (first | apply Kd.R_alloc | apply Kd.R_drewN | apply Kd.R_drew)); exact HO_378000.out))) (Kd.R_lt (by (with_reducible repeat (first | apply Kd.R_alloc | apply Kd.R_drewN | apply Kd.R_drew)); exact HO393.out))) (below_size (by repeat (first | (with_reducible first | exact HB.out | apply below_alloc | apply pw_below_drewN | apply below_drew1 | refine below_set ?_ GE377.out) | exact HB.out))))
         have n3_ := Aside0.mk (blk_below (g := gb377) (o := .cells #[.slice Ao34 x378000_1.length co34, .int .i32 a1] 28 (0, 0)) (by (with_reducible repeat (first | refine blk_drewN ?_ _ | refine blk_drew ?_ | refine blk_alloc ?_ _)); exact BK377.out) hb)
         have n4_ := Aside0.mk (below_step (by repeat (first | (with_reducible first | exact HB.out | apply below_alloc | apply pw_below_drewN | apply below_drew1 | refine below_set ?_ GE377.out) | exact HB.out)) hb)
         clear HO_378000
         clear HO393
         clear BK377
         clear HB
         have HO_378000 := n0_
         have HO393 := n1_
         have HO396 := n2_
         have BK377 := n3_
         have HB := n4_
         clear n0_ n1_ n2_ n3_ n4_
         clear hb ho39
         refine hK.out _ _ ⟨(blk_cell BK377.out 0).trans rfl, (blk_cell BK377.out 1).trans rfl⟩ (fun hHeld => ?_)
         clear hK K
         refine norm_ (a' := ?_) ?_ ?_
         rotate_left
         ·show Act.put _ (some 43) _ = _
          simp only [Act.put, List.setIfInBounds_toArray, List.set_cons_zero, List.set_cons_succ, i64_w, i32_w]
          rfl
         exact norm_ (by simp only [putAll, Act.put, List.setIfInBounds_toArray, List.set_cons_zero, List.set_cons_succ]) (hCont (v392, v395) _ ⟨hHeld, (by (with_reducible repeat (first | apply Kd.R_alloc | apply Kd.R_drewN | apply Kd.R_drew)); exact Kd.R_mono HO393.out (fun _ hk => ⟨hk.2, hk.1.2⟩)), (by (with_reducible repeat (first | apply Kd.R_alloc | apply Kd.R_drewN | apply Kd.R_drew)); exact Kd.R_mono HO396.out (fun _ hk => ⟨hk.2, hk.1.2⟩)), (by (with_reducible repeat (first | apply Kd.R_alloc | apply Kd.R_drewN | apply Kd.R_drew)); exact Kd.R_mono HO_378000.out (fun _ hk => ⟨hk.1.2, hk.2⟩)), (by (with_reducible repeat (first | refine blk_drewN ?_ _ | refine blk_drew ?_ | refine blk_alloc ?_ _)); exact BK377.out), (by repeat (first | (with_reducible first | exact HB.out | apply below_alloc | apply pw_below_drewN | apply below_drew1 | refine below_set ?_ GE377.out) | exact HB.out))⟩)
        ·skip
         refine Kd.R_lit_step (Kd.int .i32) _ 26 ?hg (N := 43) ?hd (xs := ([a1] : List Int)) (inner := [.int .i32 a1]) (ok := fun _ => True) (okp := fun _ => True) ?hr ?hp (fun _ hk => hk) trivial (Below.refl _ _) (Nat.le_refl _) (by simp) ?_; (case hd => rfl); (case hg => rfl); (case hr => first | (go_simp; done) | (go_simp; rfl)); (case hp => exact (Reps.one (show Kd.M (Kd.int .i32) _ _ _ a1 [.int .i32 a1] from rfl) (Reps.none _ _)))
         intro v395 w37 ho38 hb hg_ hnew_
         clear hg_ hnew_
         (first | rw [← Ny394.out] at ho38 | (simp only [Int.reduceToNat] at ho38; rw [← Ny394.out] at ho38))
         have n0_ := Aside0.mk (Kd.R_elder' (by (with_reducible repeat (first | apply Kd.R_alloc | apply Kd.R_drewN | apply Kd.R_drew)); exact HO_378000.out) (Kd.R_base ho38) hb)
         have n1_ := Aside0.mk (Kd.R_lower (Kd.R_new' ho38 (Kd.R_lt (by (with_reducible repeat (first | apply Kd.R_alloc | apply Kd.R_drewN | apply Kd.R_drew)); exact HO_378000.out))) (below_size (by repeat (first | (with_reducible first | exact HB.out | apply below_alloc | apply pw_below_drewN | apply below_drew1 | refine below_set ?_ GE377.out) | exact HB.out))))
         have n2_ := Aside0.mk (blk_below (g := gb377) (o := .cells #[.slice Ao34 x378000_1.length co34, .int .i32 a1] 28 (0, 0)) (by (with_reducible repeat (first | refine blk_drewN ?_ _ | refine blk_drew ?_ | refine blk_alloc ?_ _)); exact BK377.out) hb)
         have n3_ := Aside0.mk (below_step (by repeat (first | (with_reducible first | exact HB.out | apply below_alloc | apply pw_below_drewN | apply below_drew1 | refine below_set ?_ GE377.out) | exact HB.out)) hb)
         clear HO_378000
         clear BK377
         clear HB
         have HO_378000 := n0_
         have HO396 := n1_
         have BK377 := n2_
         have HB := n3_
         clear n0_ n1_ n2_ n3_
         clear hb ho38
         refine hK.out _ _ ⟨(blk_cell BK377.out 0).trans rfl, (blk_cell BK377.out 1).trans rfl⟩ (fun hHeld => ?_)
         clear hK K
         refine norm_ (a' := ?_) ?_ ?_
         rotate_left
         ·show Act.put _ (some 43) _ = _
          simp only [Act.put, List.setIfInBounds_toArray, List.set_cons_zero, List.set_cons_succ, i64_w, i32_w]
          rfl
         refine one_ (i := 2) (N := some 40) #[true, true, true, true, true, true, false, false] rfl rfl (one_of HT_.out (by kernel_rfl)) (by decide) (fun K hK => ?_)
         refine goes_ Tryz.func19 (by kernel_rfl) rfl #[.slice Ao34 x378000_1.length co34] (by rfl) rfl rfl (by (try simp only [List.map_toArray, List.map_cons, List.map_nil]); first | done | rfl | (simp only [List.length_drop, List.length_take]; rfl)) ?_
         with_reducible refine (day_Day_19.calls _ _ x378000_1 t391 _ ?side1 ?side2 A30.out).mono ?_
         (case side1 => repeat (first | exact (Kd.R_reads' HO_378000.out).2.2 | (with_reducible refine Kd.C_alloc ?_ _) | (with_reducible refine Kd.C_drewN ?_ _) | (with_reducible refine Kd.C_drew ?_)))
         (case side2 => exact (Kd.R_reads' HO_378000.out).2.1)
         rintro e w39 ⟨v392, rfl, ho0, hb⟩
         refine ⟨_, rfl, ?_⟩
         have n0_ := Aside0.mk (Kd.R_elder' (by (with_reducible repeat (first | apply Kd.R_alloc | apply Kd.R_drewN | apply Kd.R_drew)); exact HO_378000.out) (Kd.R_base ho0) hb)
         have n1_ := Aside0.mk (Kd.R_elder' (by (with_reducible repeat (first | apply Kd.R_alloc | apply Kd.R_drewN | apply Kd.R_drew)); exact HO396.out) (Kd.R_base ho0) hb)
         have n2_ := Aside0.mk (Kd.R_lower (Kd.R_new' (Kd.R_new' ho0 (Kd.R_lt (by (with_reducible repeat (first | apply Kd.R_alloc | apply Kd.R_drewN | apply Kd.R_drew)); exact HO_378000.out))) (Kd.R_lt (by (with_reducible repeat (first | apply Kd.R_alloc | apply Kd.R_drewN | apply Kd.R_drew)); exact HO396.out))) (below_size (by repeat (first | (with_reducible first | exact HB.out | apply below_alloc | apply pw_below_drewN | apply below_drew1 | refine below_set ?_ GE377.out) | exact HB.out))))
         have n3_ := Aside0.mk (blk_below (g := gb377) (o := .cells #[.slice Ao34 x378000_1.length co34, .int .i32 a1] 28 (0, 0)) (by (with_reducible repeat (first | refine blk_drewN ?_ _ | refine blk_drew ?_ | refine blk_alloc ?_ _)); exact BK377.out) hb)
         have n4_ := Aside0.mk (below_step (by repeat (first | (with_reducible first | exact HB.out | apply below_alloc | apply pw_below_drewN | apply below_drew1 | refine below_set ?_ GE377.out) | exact HB.out)) hb)
         clear HO_378000
         clear HO396
         clear BK377
         clear HB
         have HO_378000 := n0_
         have HO396 := n1_
         have HO393 := n2_
         have BK377 := n3_
         have HB := n4_
         clear n0_ n1_ n2_ n3_ n4_
         (try clear hb)
         (try clear hb2)
         (try clear hk)
         (try clear hi)
         (try clear ho0)
         refine hK.out _ _ ⟨(blk_cell BK377.out 0).trans rfl, (blk_cell BK377.out 1).trans rfl⟩ (fun hHeld => ?_)
         clear hK K
         refine norm_ (a' := ?_) ?_ ?_
         rotate_left
         ·show Act.put _ (some 40) _ = _
          simp only [Act.put, List.setIfInBounds_toArray, List.set_cons_zero, List.set_cons_succ, i64_w, i32_w]
          rfl
         exact norm_ (by simp only [putAll, Act.put, List.setIfInBounds_toArray, List.set_cons_zero, List.set_cons_succ]) (hCont (v392, v395) _ ⟨hHeld, (by (with_reducible repeat (first | apply Kd.R_alloc | apply Kd.R_drewN | apply Kd.R_drew)); exact Kd.R_mono HO393.out (fun _ hk => ⟨hk.2, hk.1.2⟩)), (by (with_reducible repeat (first | apply Kd.R_alloc | apply Kd.R_drewN | apply Kd.R_drew)); exact Kd.R_mono HO396.out (fun _ hk => ⟨hk.2, hk.1.2⟩)), (by (with_reducible repeat (first | apply Kd.R_alloc | apply Kd.R_drewN | apply Kd.R_drew)); exact Kd.R_mono HO_378000.out (fun _ hk => ⟨hk.2, hk.1.2⟩)), (by (with_reducible repeat (first | refine blk_drewN ?_ _ | refine blk_drew ?_ | refine blk_alloc ?_ _)); exact BK377.out), (by repeat (first | (with_reducible first | exact HB.out | apply below_alloc | apply pw_below_drewN | apply below_drew1 | refine below_set ?_ GE377.out) | exact HB.out))⟩)
       rintro ⟨v392, v395⟩ w40 ⟨hS_, h0_, h1_, h2_, h3_, h4_⟩
       have n0_ : Aside0 (Kd.R (Kd.int .i32) 26 w40 w.heap.size (fun k_ => some k_ ≠ (v395 : Value).ownBlock ∧ some k_ ≠ (.slice Ao34 x378000_1.length co34 : Value).ownBlock) v392 t391) := ⟨h0_⟩
       have n1_ : Aside0 (Kd.R (Kd.int .i32) 26 w40 w.heap.size (fun k_ => some k_ ≠ (v392 : Value).ownBlock ∧ some k_ ≠ (.slice Ao34 x378000_1.length co34 : Value).ownBlock) v395 y394) := ⟨h1_⟩
       have n2_ : Aside0 (Kd.R (Kd.int .i32) 26 w40 w.heap.size (fun k_ => some k_ ≠ (v392 : Value).ownBlock ∧ some k_ ≠ (v395 : Value).ownBlock) (.slice Ao34 x378000_1.length co34) x378000_1) := ⟨h2_⟩
       have n3_ : Aside0 (w40.heap[gb377]? = some (.cells #[.slice Ao34 x378000_1.length co34, .int .i32 a1] 28 (0, 0))) := ⟨h3_⟩
       have n4_ : Aside0 (Below w.heap.size w w40) := ⟨h4_⟩
       clear HO_378000
       clear BK377
       clear HB
       clear h0_ h1_ h2_ h3_ h4_
       have HO393 := n0_
       have HO396 := n1_
       have HO_378000 := n2_
       have BK377 := n3_
       have HB := n4_
       clear n0_ n1_ n2_ n3_ n4_
       have hHeld : w40.cell? ⟨gb377, 0, none⟩ = some (.slice Ao34 x378000_1.length co34) ∧ w40.cell? ⟨gb377, 1, none⟩ = some (.int .i32 a1) := hS_
       obtain ⟨Ao42, co42, eo42⟩ := Kd.R_slice HO396.out
       (first | subst eo42 | (injection eo42 with f1_ f2_ f3_; have f4_ := f1_.symm; have f5_ := f3_.symm; clear f1_ f2_ f3_; subst f4_; subst f5_))
       refine norm_ (a' := ?_) ?_ ?_
       rotate_left
       ·simp only [putAll, Act.put, List.setIfInBounds_toArray, List.set_cons_zero, List.set_cons_succ]
        rfl
       refine one_ (i := 6) (N := some 44) #[true, true, true, true, true, true, true, false] rfl rfl (one_of HT_.out (by kernel_rfl)) (by decide) (fun K hK => ?_)
       refine Kd.R_append_rows_step (Kd.int .i32) (w0 := w) w.heap.size (by rfl) (.tmp 40) (.tmp 43) 25 26 (.int .i32 0) 4 rfl Tryz.underlying25 info26 rfl (by decide) (by omega) v392 t391 y394 _ _ _ (fun k_ => some k_ ≠ (.slice Ao34 x378000_1.length co34 : Value).ownBlock ∧ some k_ ≠ (.slice Ao42 y394.length co42 : Value).ownBlock) (fun _ => False) rfl rfl ?aO ?aR (fun _ _ h => h) (fun _ h => h.elim) ?aF ?aB ?aS ?aL ?_
       (case aR => repeat (first | exact (Kd.R_reads' HO396.out).2.2 | (with_reducible refine Kd.C_alloc ?_ _) | (with_reducible refine Kd.C_drewN ?_ _) | (with_reducible refine Kd.C_drew ?_)))
       (case aB => exact (by repeat (first | (with_reducible first | exact HB.out | apply below_alloc | apply pw_below_drewN | apply below_drew1 | refine below_set ?_ GE377.out) | exact HB.out)))
       (case aF => exact (fun k_ hk => ⟨Kd.fresh' (Kd.R_lt (by (with_reducible repeat (first | apply Kd.R_alloc | apply Kd.R_drewN | apply Kd.R_drew)); exact HO_378000.out)) k_ hk, Kd.fresh' (Kd.R_lt (by (with_reducible repeat (first | apply Kd.R_alloc | apply Kd.R_drewN | apply Kd.R_drew)); exact HO396.out)) k_ hk⟩))
       (case aO => exact (by (with_reducible repeat (first | apply Kd.R_alloc | apply Kd.R_drewN | apply Kd.R_drew)); exact Kd.R_mono HO393.out (fun _ hk => ⟨hk.2, hk.1⟩)))
       (case aS => exact (below_size (by repeat (first | (with_reducible first | exact HB.out | apply below_alloc | apply pw_below_drewN | apply below_drew1 | refine below_set ?_ GE377.out) | exact HB.out))))
       (case aL => have := LMc31.out; omega)
       intro v398 w41 ho hb hg hat
       rw [← Ny397.out] at ho
       have n0_ := Aside0.mk (Kd.R_after (ok := (fun k_ => some k_ ≠ (.slice Ao42 y394.length co42 : Value).ownBlock)) (by (with_reducible repeat (first | apply Kd.R_alloc | apply Kd.R_drewN | apply Kd.R_drew)); exact Kd.R_mono HO_378000.out (fun _ hk => ⟨hk.2, hk.1⟩)) hg hat)
       have n1_ := Aside0.mk (blk_grown (g := gb377) (o := .cells #[.slice Ao34 x378000_1.length co34, .int .i32 a1] 28 (0, 0)) (by (with_reducible repeat (first | refine blk_drewN ?_ _ | refine blk_drew ?_ | refine blk_alloc ?_ _)); exact BK377.out) hg (Kd.R_ne HO393.out BK377.out (by decide)))
       have n2_ := Aside0.mk (Kd.R_after (ok := (fun k_ => some k_ ≠ (.slice Ao34 x378000_1.length co34 : Value).ownBlock)) (by (with_reducible repeat (first | apply Kd.R_alloc | apply Kd.R_drewN | apply Kd.R_drew)); exact Kd.R_mono HO396.out (fun _ hk => ⟨hk.2, hk.1⟩)) hg hat)
       have n3_ := Aside0.mk (hb)
       have n4_ := Aside0.mk (ho)
       clear HO_378000
       clear BK377
       clear HO396
       clear HB
       clear HO393
       have HO_378000 := n0_
       have BK377 := n1_
       have HO396 := n2_
       have HB := n3_
       have HO399 := n4_
       clear n0_ n1_ n2_ n3_ n4_
       clear ho hb hg hat
       refine hK.out _ _ ⟨(blk_cell BK377.out 0).trans rfl, (blk_cell BK377.out 1).trans rfl⟩ (fun hHeld => ?_)
       clear hK K
       refine norm_ (a' := ?_) ?_ ?_
       rotate_left
       ·show Act.put _ (some 44) _ = _
        simp only [Act.put, List.setIfInBounds_toArray, List.set_cons_zero, List.set_cons_succ, i64_w, i32_w]
        rfl
       refine pure_ (i := 7) (N := some 11) (v := ?_) (a' := ?_) #[true, true, true, true, true, true, true, true] rfl rfl (any_of HT_.out (by kernel_rfl)) (fun _ _ _ h => h) (Or.inl ⟨by rfl, ?_⟩) ?_ ?_
       rotate_left
       ·intro w'
        go_simp
        with_reducible rfl
       rotate_left
       ·simp only [Act.put, List.setIfInBounds_toArray, List.set_cons_zero, List.set_cons_succ, i64_w, i32_w]
        rfl
       refine done_ (done_of HT_.out (by kernel_rfl)) ?_
       obtain ⟨Ao43, co43, eo43⟩ := Kd.R_slice HO399.out
       subst eo43
       go_upto_block 2 with (fail)
       go_cut [10] (fun v10 wc => ∃ (kq : Nat) (x10_31 : Int), v10 = .int .i64 x10_31 ∧ Aside0 (transposallaw08_CalendarChecks.j3 kq l0 x10_31 x378000_1 a1 = some r) ∧ Aside0 (kq ≤ k1) ∧ Aside0 (Kd.R (Kd.int .i32) 26 wc w.heap.size (fun _ => True) (.slice Ao34 x378000_1.length co34) x378000_1) ∧ Aside0 (wc.heap[gb377]? = some (.cells #[(.slice Ao34 x378000_1.length co34), .int .i32 a1] 28 (0, 0))) ∧ Aside0 (Below w.heap.size w wc))
       case first =>
        have H := HC32.out
        clear HC32
        have H' := Aside0.mk H
        clear H
        go_wp2
        go_loopg [10, 47] k1 (fun kq v10 v47 w' => ∃ (x10_2 : Int) (x47_2 : Int), v10 = .int .i64 x10_2 ∧ v47 = .int .i64 x47_2 ∧ Aside0 (transposallaw08_CalendarChecks.l1 kq l0 x10_2 y397 y397 (y397.length : Int) x47_2 x378000_1 a1 = some r) ∧ Aside0 (kq ≤ k1) ∧ Aside0 (Kd.R (Kd.int .i32) 26 w' w.heap.size (fun k_ => some k_ ≠ ((.slice Ao34 x378000_1.length co34) : Value).ownBlock) (.slice Ao43 y397.length co43) y397) ∧ Aside0 (Kd.R (Kd.int .i32) 26 w' w.heap.size (fun k_ => some k_ ≠ ((.slice Ao34 x378000_1.length co34) : Value).ownBlock) (.slice Ao43 y397.length co43) y397) ∧ Aside0 (Kd.R (Kd.int .i32) 26 w' w.heap.size (fun k_ => some k_ ≠ ((.slice Ao43 y397.length co43) : Value).ownBlock ∧ some k_ ≠ ((.slice Ao43 y397.length co43) : Value).ownBlock) (.slice Ao34 x378000_1.length co34) x378000_1) ∧ Aside0 (w'.heap[gb377]? = some (.cells #[(.slice Ao34 x378000_1.length co34), .int .i32 a1] 28 (0, 0))) ∧ Aside0 (Below w.heap.size w w'))
        case atStart => exact ⟨(0), (0), (by first | rfl | (simp; done) | (simp [*]; done)), (by first | rfl | (simp; done) | (simp [*]; done)), H', ⟨Nat.le_refl _⟩, ⟨by (with_reducible repeat (first | apply Kd.R_alloc | apply Kd.R_drewN | apply Kd.R_drew)); exact Kd.R_mono HO399.out (fun _ hk => hk.1)⟩, ⟨by (with_reducible repeat (first | apply Kd.R_alloc | apply Kd.R_drewN | apply Kd.R_drew)); exact Kd.R_mono HO399.out (fun _ hk => hk.1)⟩, ⟨by (with_reducible repeat (first | apply Kd.R_alloc | apply Kd.R_drewN | apply Kd.R_drew)); exact Kd.R_mono HO_378000.out (fun _ hk => ⟨hk.2, hk.2⟩)⟩, ⟨by (with_reducible repeat (first | refine blk_drewN ?_ _ | refine blk_drew ?_ | refine blk_alloc ?_ _)); exact BK377.out⟩, ⟨by repeat (first | (with_reducible first | exact HB.out | apply below_alloc | apply pw_below_drewN | apply below_drew1 | refine below_set ?_ GE377.out) | exact HB.out)⟩⟩
        case round =>
         clear H'
         try clear c1
         try clear c2
         try clear p2
         try clear c3
         try clear p3
         try clear q3
         try clear hx3
         try clear c5
         try clear c6
         try clear c6b0
         try clear c6b1
         try clear p6
         try clear c10
         try clear c10b0
         try clear c11
         try clear c11b0
         try clear c12
         try clear c12b0
         try clear c13
         try clear c14
         try clear c19
         try clear c22
         try clear c31
         try clear p37
         try clear q37
         try clear hx37
         try clear hcz15_0
         try clear hcz15_1
         try clear hcz21_0
         try clear hcz21_1
         try clear hcz23_0
         try clear hcz23_1
         try clear hcz29_0
         try clear hcz29_1
         try clear hcz33_0
         try clear hcz33_1
         try clear hfz15_0
         try clear hfz15_1
         try clear hfz21_0
         try clear hfz21_1
         try clear hfz23_0
         try clear hfz23_1
         try clear hfz29_0
         try clear hfz29_1
         try clear hfz33_0
         try clear hfz33_1
         try clear hx378_0
         try clear p2
         try clear p378
         try clear q378
         obtain ⟨x10_2, x47_2, rfl, rfl, HA, HK2, HO_11, HO_45, HO_378000, BK377, HB⟩ := hrel
         cases gk with
         | zero => exact absurd HA.out (by simp [transposallaw08_CalendarChecks.l1])
         | succ k2 =>
          have H := HA.out
          clear HA
          simp only [transposallaw08_CalendarChecks.l1] at H
          by_cases c44 : x47_2 < (y397.length : Int)
          ·rw [if_pos c44] at H
           have c44b0 : decide (x47_2 < (y397.length : Int)) = true := decide_eq_true c44
           clear c44
           (first | rw [c44b0] | (simp only [i64_w, i32_w]; rw [c44b0]) | skip)
           by_cases c45 : 0 ≤ x47_2
           ·rw [if_pos c45] at H
            have c45b0 : decide (0 ≤ x47_2) = true := decide_eq_true c45
            clear c45
            by_cases c46 : x47_2 < (y397.length : Int)
            ·rw [if_pos c46] at H
             have c46b0 : decide (x47_2 < (y397.length : Int)) = true := decide_eq_true c46
             clear c46
             have HC47 := Aside0.mk H
             clear H
             have p400 : 0 ≤ (x47_2 : Int) := of_decide_eq_true (by first | (with_reducible assumption) | assumption)
             have q400 : x47_2 < (y397.length : Int) := of_decide_eq_true (by first | (with_reducible assumption) | assumption)
             obtain ⟨ad400, e400, hx400_0⟩ := Kd.at_int (Kd.R_reads' HO_45.out).2.2 x47_2 p400 q400
             cases e400
             replace p400 := eq_true p400
             replace q400 := eq_true q400
             go_upto_region 19 with (fail)
             go_cut [61] (fun v61 wc => ∃ (kq : Nat) (x61_46 : Bool), v61 = .bool x61_46 ∧ Aside0 (transposallaw08_CalendarChecks.j2 kq l0 x10_2 y397 x47_2 (rd y397 x47_2) y397 (y397.length : Int) x47_2 x61_46 x378000_1 a1 = some r) ∧ Aside0 (kq ≤ k2) ∧ Aside0 (Kd.R (Kd.int .i32) 26 wc w.heap.size (fun k_ => some k_ ≠ ((.slice Ao34 x378000_1.length co34) : Value).ownBlock) (.slice (some ad400) y397.length co43) y397) ∧ Aside0 (Kd.R (Kd.int .i32) 26 wc w.heap.size (fun k_ => some k_ ≠ ((.slice Ao34 x378000_1.length co34) : Value).ownBlock) (.slice (some ad400) y397.length co43) y397) ∧ Aside0 (Kd.R (Kd.int .i32) 26 wc w.heap.size (fun k_ => some k_ ≠ ((.slice (some ad400) y397.length co43) : Value).ownBlock ∧ some k_ ≠ ((.slice (some ad400) y397.length co43) : Value).ownBlock) (.slice Ao34 x378000_1.length co34) x378000_1) ∧ Aside0 (wc.heap[gb377]? = some (.cells #[(.slice Ao34 x378000_1.length co34), .int .i32 a1] 28 (0, 0))) ∧ Aside0 (Below w.heap.size w wc))
             case first =>
              have H := HC47.out
              clear HC47
              replace H := Option.bind_eq_some_iff.mp H
              obtain ⟨t401, A480, H⟩ := H
              replace H : (if (wrap64 (rd y397 x47_2)) < t401 then (transposallaw08_CalendarChecks.j2 k2 l0 x10_2 y397 x47_2 (rd y397 x47_2) y397 (y397.length : Int) x47_2 true x378000_1 a1) else ((transposallaw04_Number.f k2 9999 12 31).bind fun t402 => (transposallaw08_CalendarChecks.j2 k2 l0 x10_2 y397 x47_2 (rd y397 x47_2) y397 (y397.length : Int) x47_2 (decide ((wrap64 (rd y397 x47_2)) > t402)) x378000_1 a1))) = some r := H
              have A48 := Aside0.mk A480
              clear A480
              by_cases c49 : (wrap64 (rd y397 x47_2)) < t401
              ·rw [if_pos c49] at H
               have c49b0 : decide ((wrap64 (rd y397 x47_2)) < t401) = true := decide_eq_true c49
               clear c49
               (first | rw [c49b0] | (simp only [i64_w, i32_w]; rw [c49b0]) | skip)
               have H' := Aside0.mk H
               clear H
               go_wp2_with (first | ((with_reducible refine gate_callee (f := 20) rfl ?_); refine goesL_ (some 54) rfl rfl Tryz.func20 (by kernel_rfl) rfl #[.int .i64 1, .int .i64 1, .int .i64 1] rfl (by (try simp only [List.map_toArray, List.map_cons, List.map_nil]); first | done | rfl | (simp only [List.length_drop, List.length_take]; rfl)) ?_; (with_reducible refine (transposallaw04_Number.calls k2 1 1 1 t401 _ A48.out).mono ?_); rintro e w' ⟨rfl, ⟨nd, rfl⟩⟩; refine ⟨_, rfl, ?_⟩))
               go_meet
               case rel => exact ⟨_, (true), (by first | rfl | (simp; done) | (simp [*]; done)), H', ⟨by have := HK1.out; have := HK2.out; first | omega | exact Nat.le_refl _⟩, ⟨by (with_reducible repeat (first | apply Kd.R_alloc | apply Kd.R_drewN | apply Kd.R_drew)); exact HO_11.out⟩, ⟨by (with_reducible repeat (first | apply Kd.R_alloc | apply Kd.R_drewN | apply Kd.R_drew)); exact HO_45.out⟩, ⟨by (with_reducible repeat (first | apply Kd.R_alloc | apply Kd.R_drewN | apply Kd.R_drew)); exact HO_378000.out⟩, ⟨by (with_reducible repeat (first | refine blk_drewN ?_ _ | refine blk_drew ?_ | refine blk_alloc ?_ _)); exact BK377.out⟩, ⟨by repeat (first | (with_reducible first | exact HB.out | apply below_alloc | apply pw_below_drewN | apply below_drew1 | refine below_set ?_ GE377.out) | exact HB.out)⟩⟩
              ·rw [if_neg c49] at H
               have c49b0 : decide ((wrap64 (rd y397 x47_2)) < t401) = false := decide_eq_false c49
               clear c49
               (first | rw [c49b0] | (simp only [i64_w, i32_w]; rw [c49b0]) | skip)
               replace H := Option.bind_eq_some_iff.mp H
               obtain ⟨t402, A500, H⟩ := H
               replace H : (transposallaw08_CalendarChecks.j2 k2 l0 x10_2 y397 x47_2 (rd y397 x47_2) y397 (y397.length : Int) x47_2 (decide ((wrap64 (rd y397 x47_2)) > t402)) x378000_1 a1) = some r := H
               have A50 := Aside0.mk A500
               clear A500
               have H' := Aside0.mk H
               clear H
               go_wp2_with (first | ((with_reducible refine gate_callee (f := 20) rfl ?_); refine goesL_ (some 54) rfl rfl Tryz.func20 (by kernel_rfl) rfl #[.int .i64 1, .int .i64 1, .int .i64 1] rfl (by (try simp only [List.map_toArray, List.map_cons, List.map_nil]); first | done | rfl | (simp only [List.length_drop, List.length_take]; rfl)) ?_; (with_reducible refine (transposallaw04_Number.calls k2 1 1 1 t401 _ A48.out).mono ?_); rintro e w' ⟨rfl, ⟨nd, rfl⟩⟩; refine ⟨_, rfl, ?_⟩) | (go_at_call 20; (with_reducible refine (transposallaw04_Number.calls k2 9999 12 31 t402 _ A50.out).mono ?_); rintro e w' ⟨rfl, ⟨nd, rfl⟩⟩))
               go_meet
               case rel => exact ⟨_, (decide ((wrap64 (rd y397 x47_2)) > t402)), (by first | rfl | (simp; done) | (simp [*]; done)), H', ⟨by have := HK1.out; have := HK2.out; first | omega | exact Nat.le_refl _⟩, ⟨by (with_reducible repeat (first | apply Kd.R_alloc | apply Kd.R_drewN | apply Kd.R_drew)); exact HO_11.out⟩, ⟨by (with_reducible repeat (first | apply Kd.R_alloc | apply Kd.R_drewN | apply Kd.R_drew)); exact HO_45.out⟩, ⟨by (with_reducible repeat (first | apply Kd.R_alloc | apply Kd.R_drewN | apply Kd.R_drew)); exact HO_378000.out⟩, ⟨by (with_reducible repeat (first | refine blk_drewN ?_ _ | refine blk_drew ?_ | refine blk_alloc ?_ _)); exact BK377.out⟩, ⟨by repeat (first | (with_reducible first | exact HB.out | apply below_alloc | apply pw_below_drewN | apply below_drew1 | refine below_set ?_ GE377.out) | exact HB.out)⟩⟩
             case rest =>
              clear HC47
              try clear c1
              try clear c2
              try clear p2
              try clear c3
              try clear p3
              try clear q3
              try clear hx3
              try clear c4
              try clear p4
              try clear q4
              try clear hx4
              try clear c5
              try clear c6
              try clear c6b0
              try clear c6b1
              try clear p6
              try clear c10
              try clear c10b0
              try clear c11
              try clear c11b0
              try clear c12
              try clear c12b0
              try clear c13
              try clear c14
              try clear c19
              try clear c20
              try clear c22
              try clear c31
              try clear p37
              try clear q37
              try clear hx37
              try clear p40
              try clear q40
              try clear hx40
              try clear c44
              try clear c44b0
              try clear c45
              try clear c45b0
              try clear c46
              try clear c46b0
              try clear c49
              try clear c49b0
              try clear hcz15_0
              try clear hcz15_1
              try clear hcz21_0
              try clear hcz21_1
              try clear hcz23_0
              try clear hcz23_1
              try clear hcz29_0
              try clear hcz29_1
              try clear hcz33_0
              try clear hcz33_1
              try clear hfz15_0
              try clear hfz15_1
              try clear hfz21_0
              try clear hfz21_1
              try clear hfz23_0
              try clear hfz23_1
              try clear hfz29_0
              try clear hfz29_1
              try clear hfz33_0
              try clear hfz33_1
              try clear hx378_0
              try clear hx400_0
              try clear p2
              try clear p3
              try clear p37
              try clear p378
              try clear p400
              try clear p6
              try clear q3
              try clear q37
              try clear q378
              try clear q400
              obtain ⟨kq, x61_46, rfl, HA, HJ46, HO_11, HO_45, HO_378000, BK377, HB⟩ := hcut
              cases kq with
              | zero => exact absurd HA.out (by simp [transposallaw08_CalendarChecks.j2])
              | succ kj46 =>
               have H := HA.out
               clear HA
               simp only [transposallaw08_CalendarChecks.j2] at H
               by_cases c51 : x61_46 = true
               ·subst c51
                have H1 : (transposallaw08_CalendarChecks.j3 kj46 l0 13 x378000_1 a1) = some r := by rw [if_pos rfl] at H; exact H
                clear H
                have H := H1
                clear H1
                have H' := Aside0.mk H
                clear H
                go_wp2
                go_meet
                case rel => exact ⟨_, (13), (by first | rfl | (simp; done) | (simp [*]; done)), H', ⟨by have := HK1.out; have := HK2.out; have := HJ46.out; first | omega | exact Nat.le_refl _⟩, ⟨by (with_reducible repeat (first | apply Kd.R_alloc | apply Kd.R_drewN | apply Kd.R_drew)); exact Kd.R_mono HO_378000.out (fun _ hk => trivial)⟩, ⟨by (with_reducible repeat (first | refine blk_drewN ?_ _ | refine blk_drew ?_ | refine blk_alloc ?_ _)); exact BK377.out⟩, ⟨by repeat (first | (with_reducible first | exact HB.out | apply below_alloc | apply pw_below_drewN | apply below_drew1 | refine below_set ?_ GE377.out) | exact HB.out)⟩⟩
               ·replace c51 := Bool.eq_false_iff.mpr c51
                subst c51
                have H1 : (if x47_2 > 0 then (if 0 ≤ (wrap64 (x47_2 - 1)) then (if (wrap64 (x47_2 - 1)) < (y397.length : Int) then (if (rd y397 (wrap64 (x47_2 - 1))) ≥ (rd y397 x47_2) then (transposallaw08_CalendarChecks.j3 kj46 l0 6 x378000_1 a1) else (transposallaw08_CalendarChecks.l1 kj46 l0 x10_2 y397 y397 (y397.length : Int) (wrap64 (x47_2 + 1)) x378000_1 a1)) else (none)) else (none)) else (transposallaw08_CalendarChecks.l1 kj46 l0 x10_2 y397 y397 (y397.length : Int) (wrap64 (x47_2 + 1)) x378000_1 a1)) = some r := by rw [if_neg (show ¬ (false = true) by decide)] at H; exact H
                clear H
                have H := H1
                clear H1
                by_cases c52 : x47_2 > 0
                ·rw [if_pos c52] at H
                 have c52b0 : decide (0 < x47_2) = true := decide_eq_true c52
                 clear c52
                 obtain ⟨ji53, hji53⟩ : ∃ j_ : Int, (wrap64 (x47_2 - 1)) = j_ := ⟨_, rfl⟩
                 replace H : (if 0 ≤ (ji53) then (if (ji53) < (y397.length : Int) then (if (rd y397 (ji53)) ≥ (rd y397 x47_2) then (transposallaw08_CalendarChecks.j3 kj46 l0 6 x378000_1 a1) else (transposallaw08_CalendarChecks.l1 kj46 l0 x10_2 y397 y397 (y397.length : Int) (wrap64 (x47_2 + 1)) x378000_1 a1)) else (none)) else (none)) = some r := by first | (rw [hji53] at H; exact H) | (simp only [hji53] at H ⊢; exact H)
                 have hji53w : (IntKind.i64.wrap (x47_2 - 1)) = ji53 := (i64_w _).trans hji53
                 by_cases c54 : 0 ≤ (ji53)
                 ·rw [if_pos c54] at H
                  have c54b0 : decide (0 ≤ (ji53)) = true := decide_eq_true c54
                  clear c54
                  by_cases c55 : (ji53) < (y397.length : Int)
                  ·rw [if_pos c55] at H
                   have c55b0 : decide ((ji53) < (y397.length : Int)) = true := decide_eq_true c55
                   clear c55
                   by_cases c56 : (rd y397 (ji53)) ≥ (rd y397 x47_2)
                   ·rw [if_pos c56] at H
                    have c56b0 : decide ((rd y397 x47_2) ≤ (rd y397 (ji53))) = true := decide_eq_true c56
                    clear c56
                    have H' := Aside0.mk H
                    clear H
                    have p403 : 0 ≤ ((ji53) : Int) := of_decide_eq_true (by first | (with_reducible assumption) | assumption)
                    have q403 : (ji53) < (y397.length : Int) := of_decide_eq_true (by first | (with_reducible assumption) | assumption)
                    obtain ⟨ad403, e403, hx403_0⟩ := Kd.at_int (Kd.R_reads' HO_11.out).2.2 (ji53) p403 q403
                    obtain rfl : ad400 = ad403 := (by injection e403)
                    replace p403 := eq_true p403
                    replace q403 := eq_true q403
                    go_wp2
                    go_meet
                    case rel => exact ⟨_, (6), (by first | rfl | (simp; done) | (simp [*]; done)), H', ⟨by have := HK1.out; have := HK2.out; have := HJ46.out; first | omega | exact Nat.le_refl _⟩, ⟨by (with_reducible repeat (first | apply Kd.R_alloc | apply Kd.R_drewN | apply Kd.R_drew)); exact Kd.R_mono HO_378000.out (fun _ hk => trivial)⟩, ⟨by (with_reducible repeat (first | refine blk_drewN ?_ _ | refine blk_drew ?_ | refine blk_alloc ?_ _)); exact BK377.out⟩, ⟨by repeat (first | (with_reducible first | exact HB.out | apply below_alloc | apply pw_below_drewN | apply below_drew1 | refine below_set ?_ GE377.out) | exact HB.out)⟩⟩
                   ·rw [if_neg c56] at H
                    have c56b0 : decide ((rd y397 x47_2) ≤ (rd y397 (ji53))) = false := decide_eq_false c56
                    clear c56
                    have H' := Aside0.mk H
                    clear H
                    have p403 : 0 ≤ ((ji53) : Int) := of_decide_eq_true (by first | (with_reducible assumption) | assumption)
                    have q403 : (ji53) < (y397.length : Int) := of_decide_eq_true (by first | (with_reducible assumption) | assumption)
                    obtain ⟨ad403, e403, hx403_0⟩ := Kd.at_int (Kd.R_reads' HO_11.out).2.2 (ji53) p403 q403
                    obtain rfl : ad400 = ad403 := (by injection e403)
                    replace p403 := eq_true p403
                    replace q403 := eq_true q403
                    go_wp2
                    go_roundg kj46
                    case measure => have := HK1.out; have := HK2.out; have := HJ46.out; omega
                    case rel => exact ⟨(x10_2), (wrap64 (x47_2 + 1)), (by first | rfl | (simp; done) | (simp [*]; done)), (by first | rfl | (simp; done) | (simp [*]; done)), H', ⟨by have := HK1.out; have := HK2.out; have := HJ46.out; omega⟩, ⟨by (with_reducible repeat (first | apply Kd.R_alloc | apply Kd.R_drewN | apply Kd.R_drew)); exact HO_11.out⟩, ⟨by (with_reducible repeat (first | apply Kd.R_alloc | apply Kd.R_drewN | apply Kd.R_drew)); exact HO_45.out⟩, ⟨by (with_reducible repeat (first | apply Kd.R_alloc | apply Kd.R_drewN | apply Kd.R_drew)); exact HO_378000.out⟩, ⟨by (with_reducible repeat (first | refine blk_drewN ?_ _ | refine blk_drew ?_ | refine blk_alloc ?_ _)); exact BK377.out⟩, ⟨by repeat (first | (with_reducible first | exact HB.out | apply below_alloc | apply pw_below_drewN | apply below_drew1 | refine below_set ?_ GE377.out) | exact HB.out)⟩⟩
                  ·rw [if_neg c55] at H
                   exact absurd H (by simp)
                 ·rw [if_neg c54] at H
                  exact absurd H (by simp)
                ·rw [if_neg c52] at H
                 have c52b0 : decide (0 < x47_2) = false := decide_eq_false c52
                 clear c52
                 have H' := Aside0.mk H
                 clear H
                 go_wp2
                 go_roundg kj46
                 case measure => have := HK1.out; have := HK2.out; have := HJ46.out; omega
                 case rel => exact ⟨(x10_2), (wrap64 (x47_2 + 1)), (by first | rfl | (simp; done) | (simp [*]; done)), (by first | rfl | (simp; done) | (simp [*]; done)), H', ⟨by have := HK1.out; have := HK2.out; have := HJ46.out; omega⟩, ⟨by (with_reducible repeat (first | apply Kd.R_alloc | apply Kd.R_drewN | apply Kd.R_drew)); exact HO_11.out⟩, ⟨by (with_reducible repeat (first | apply Kd.R_alloc | apply Kd.R_drewN | apply Kd.R_drew)); exact HO_45.out⟩, ⟨by (with_reducible repeat (first | apply Kd.R_alloc | apply Kd.R_drewN | apply Kd.R_drew)); exact HO_378000.out⟩, ⟨by (with_reducible repeat (first | refine blk_drewN ?_ _ | refine blk_drew ?_ | refine blk_alloc ?_ _)); exact BK377.out⟩, ⟨by repeat (first | (with_reducible first | exact HB.out | apply below_alloc | apply pw_below_drewN | apply below_drew1 | refine below_set ?_ GE377.out) | exact HB.out)⟩⟩
            ·rw [if_neg c46] at H
             exact absurd H (by simp)
           ·rw [if_neg c45] at H
            exact absurd H (by simp)
          ·rw [if_neg c44] at H
           have c44b0 : decide (x47_2 < (y397.length : Int)) = false := decide_eq_false c44
           clear c44
           (first | rw [c44b0] | (simp only [i64_w, i32_w]; rw [c44b0]) | skip)
           have H' := Aside0.mk H
           clear H
           go_wp2
           go_meet
           case rel => exact ⟨_, (x10_2), (by first | rfl | (simp; done) | (simp [*]; done)), H', ⟨by have := HK1.out; have := HK2.out; first | omega | exact Nat.le_refl _⟩, ⟨by (with_reducible repeat (first | apply Kd.R_alloc | apply Kd.R_drewN | apply Kd.R_drew)); exact Kd.R_mono HO_378000.out (fun _ hk => trivial)⟩, ⟨by (with_reducible repeat (first | refine blk_drewN ?_ _ | refine blk_drew ?_ | refine blk_alloc ?_ _)); exact BK377.out⟩, ⟨by repeat (first | (with_reducible first | exact HB.out | apply below_alloc | apply pw_below_drewN | apply below_drew1 | refine below_set ?_ GE377.out) | exact HB.out)⟩⟩
       case rest =>
        clear HC32
        try clear c1
        try clear c2
        try clear p2
        try clear c3
        try clear p3
        try clear q3
        try clear hx3
        try clear c4
        try clear p4
        try clear q4
        try clear hx4
        try clear c5
        try clear c6
        try clear c6b0
        try clear c6b1
        try clear p6
        try clear c10
        try clear c10b0
        try clear c11
        try clear c11b0
        try clear c12
        try clear c12b0
        try clear c13
        try clear c14
        try clear c19
        try clear c20
        try clear c22
        try clear c31
        try clear p37
        try clear q37
        try clear hx37
        try clear p40
        try clear q40
        try clear hx40
        try clear c44
        try clear c44b0
        try clear c45
        try clear c45b0
        try clear c46
        try clear c46b0
        try clear c49
        try clear c49b0
        try clear c51
        try clear c52
        try clear c52b0
        try clear c54
        try clear c54b0
        try clear c55
        try clear c55b0
        try clear c56
        try clear c56b0
        try clear hcz15_0
        try clear hcz15_1
        try clear hcz21_0
        try clear hcz21_1
        try clear hcz23_0
        try clear hcz23_1
        try clear hcz29_0
        try clear hcz29_1
        try clear hcz33_0
        try clear hcz33_1
        try clear hfz15_0
        try clear hfz15_1
        try clear hfz21_0
        try clear hfz21_1
        try clear hfz23_0
        try clear hfz23_1
        try clear hfz29_0
        try clear hfz29_1
        try clear hfz33_0
        try clear hfz33_1
        try clear hx378_0
        try clear hx400_0
        try clear hx403_0
        try clear p2
        try clear p3
        try clear p37
        try clear p378
        try clear p4
        try clear p40
        try clear p400
        try clear p403
        try clear p6
        try clear q3
        try clear q37
        try clear q378
        try clear q4
        try clear q40
        try clear q400
        try clear q403
        obtain ⟨kq, x10_31, rfl, HA, HJ31, HO_378000, BK377, HB⟩ := hcut
        cases kq with
        | zero => exact absurd HA.out (by simp [transposallaw08_CalendarChecks.j3])
        | succ kj31 =>
         have H := HA.out
         clear HA
         simp only [transposallaw08_CalendarChecks.j3] at H
         have HC57 := Aside0.mk H
         clear H
         go_upto_region 24 with (fail)
         go_cut [81] (fun v81 wc => ∃ (kq : Nat) (x81_56 : Bool), v81 = .bool x81_56 ∧ Aside0 (transposallaw08_CalendarChecks.j4 kq l0 x10_31 x81_56 x378000_1 a1 = some r) ∧ Aside0 (kq ≤ kj31) ∧ Aside0 (Kd.R (Kd.int .i32) 26 wc w.heap.size (fun _ => True) (.slice Ao34 x378000_1.length co34) x378000_1) ∧ Aside0 (wc.heap[gb377]? = some (.cells #[(.slice Ao34 x378000_1.length co34), .int .i32 a1] 28 (0, 0))) ∧ Aside0 (Below w.heap.size w wc))
         case first =>
          have H := HC57.out
          clear HC57
          by_cases c58 : (l0.length : Int) < 1
          ·rw [if_pos c58] at H
           have c58b0 : decide ((l0.length : Int) < 1) = true := decide_eq_true c58
           have c58b1 : decide (l0.length < 1) = true := decide_eq_true (by omega)
           clear c58
           (first | rw [c58b0] | (simp only [i64_w, i32_w]; rw [c58b0]) | skip)
           have H' := Aside0.mk H
           clear H
           go_wp2
           go_meet
           case rel => exact ⟨_, (true), (by first | rfl | (simp; done) | (simp [*]; done)), H', ⟨by have := HK1.out; have := HJ31.out; first | omega | exact Nat.le_refl _⟩, ⟨by (with_reducible repeat (first | apply Kd.R_alloc | apply Kd.R_drewN | apply Kd.R_drew)); exact HO_378000.out⟩, ⟨by (with_reducible repeat (first | refine blk_drewN ?_ _ | refine blk_drew ?_ | refine blk_alloc ?_ _)); exact BK377.out⟩, ⟨by repeat (first | (with_reducible first | exact HB.out | apply below_alloc | apply pw_below_drewN | apply below_drew1 | refine below_set ?_ GE377.out) | exact HB.out)⟩⟩
          ·rw [if_neg c58] at H
           have c58b0 : decide ((l0.length : Int) < 1) = false := decide_eq_false c58
           have c58b1 : decide (l0.length < 1) = false := decide_eq_false (by omega)
           clear c58
           (first | rw [c58b0] | (simp only [i64_w, i32_w]; rw [c58b0]) | skip)
           have H' := Aside0.mk H
           clear H
           go_wp2
           go_meet
           case rel => exact ⟨_, (decide ((l0.length : Int) > 60)), (by first | rfl | (simp; done) | (simp [*]; done)), H', ⟨by have := HK1.out; have := HJ31.out; first | omega | exact Nat.le_refl _⟩, ⟨by (with_reducible repeat (first | apply Kd.R_alloc | apply Kd.R_drewN | apply Kd.R_drew)); exact HO_378000.out⟩, ⟨by (with_reducible repeat (first | refine blk_drewN ?_ _ | refine blk_drew ?_ | refine blk_alloc ?_ _)); exact BK377.out⟩, ⟨by repeat (first | (with_reducible first | exact HB.out | apply below_alloc | apply pw_below_drewN | apply below_drew1 | refine below_set ?_ GE377.out) | exact HB.out)⟩⟩
         case rest =>
          clear HC57
          try clear c1
          try clear c2
          try clear p2
          try clear c3
          try clear p3
          try clear q3
          try clear hx3
          try clear c4
          try clear p4
          try clear q4
          try clear hx4
          try clear c5
          try clear c6
          try clear c6b0
          try clear c6b1
          try clear p6
          try clear c10
          try clear c10b0
          try clear c11
          try clear c11b0
          try clear c12
          try clear c12b0
          try clear c13
          try clear c14
          try clear c19
          try clear c20
          try clear c22
          try clear c31
          try clear p37
          try clear q37
          try clear hx37
          try clear p40
          try clear q40
          try clear hx40
          try clear c44
          try clear c44b0
          try clear c45
          try clear c45b0
          try clear c46
          try clear c46b0
          try clear c49
          try clear c49b0
          try clear c51
          try clear c52
          try clear c52b0
          try clear c54
          try clear c54b0
          try clear c55
          try clear c55b0
          try clear c56
          try clear c56b0
          try clear c58
          try clear c58b0
          try clear c58b1
          try clear hcz15_0
          try clear hcz15_1
          try clear hcz21_0
          try clear hcz21_1
          try clear hcz23_0
          try clear hcz23_1
          try clear hcz29_0
          try clear hcz29_1
          try clear hcz33_0
          try clear hcz33_1
          try clear hfz15_0
          try clear hfz15_1
          try clear hfz21_0
          try clear hfz21_1
          try clear hfz23_0
          try clear hfz23_1
          try clear hfz29_0
          try clear hfz29_1
          try clear hfz33_0
          try clear hfz33_1
          try clear hx378_0
          try clear hx400_0
          try clear hx403_0
          try clear p2
          try clear p3
          try clear p37
          try clear p378
          try clear p4
          try clear p40
          try clear p400
          try clear p403
          try clear p6
          try clear q3
          try clear q37
          try clear q378
          try clear q4
          try clear q40
          try clear q400
          try clear q403
          obtain ⟨kq, x81_56, rfl, HA, HJ56, HO_378000, BK377, HB⟩ := hcut
          cases kq with
          | zero => exact absurd HA.out (by simp [transposallaw08_CalendarChecks.j4])
          | succ kj56 =>
           have H := HA.out
           clear HA
           simp only [transposallaw08_CalendarChecks.j4] at H
           by_cases c59 : x81_56 = true
           ·subst c59
            have H1 : ((calendar_Calendar_Check.f kj56 x378000_1 a1).bind fun t404 => (if t404 = 2 then ((calendar_Calendar_Len.f x378000_1 a1).bind fun t405 => (some (t405 == (l0.length : Int)))) else (some false))) = some r := by rw [if_pos rfl] at H; exact H
            clear H
            have H := H1
            clear H1
            replace H := Option.bind_eq_some_iff.mp H
            obtain ⟨t404, A600, H⟩ := H
            replace H : (if t404 = 2 then ((calendar_Calendar_Len.f x378000_1 a1).bind fun t405 => (some (t405 == (l0.length : Int)))) else (some false)) = some r := H
            have A60 := Aside0.mk A600
            clear A600
            by_cases c61 : t404 = 2
            ·rw [if_pos c61] at H
             have c61b0 : (t404 == 2) = true := beq_iff_eq.mpr c61
             have c61b1 : (t404 != 2) = false := bne_eq_false_iff_eq.mpr c61
             clear c61
             replace H := Option.bind_eq_some_iff.mp H
             obtain ⟨t405, A620, H⟩ := H
             replace H : (some (t405 == (l0.length : Int))) = some r := H
             have A62 := Aside0.mk A620
             clear A620
             obtain rfl := Option.some.inj H
             have hcz63_0 : wc.cell? ⟨gb377, 0, none⟩ = some (.slice Ao34 x378000_1.length co34) := (blk_cell BK377.out 0).trans rfl
             have hcz63_1 : wc.cell? ⟨gb377, 1, none⟩ = some (.int .i32 a1) := (blk_cell BK377.out 1).trans rfl
             have hfz63_0 := blk_frozen BK377.out 0
             have hfz63_1 := blk_frozen BK377.out 1
             go_wp2_with (first | ((with_reducible refine gate_callee (f := 18) rfl ?_); refine goesL_ (some 83) rfl rfl Tryz.func18 (by kernel_rfl) rfl #[.agg #[.slice Ao34 x378000_1.length co34, .int .i32 a1]] rfl (by (try simp only [List.map_toArray, List.map_cons, List.map_nil]); first | done | rfl | (simp only [List.length_drop, List.length_take]; rfl)) ?_; (with_reducible refine (calendar_Calendar_Check.calls kj56 _ _ x378000_1 a1 t404 _ ?side1 ?side2 ?side3 A60.out).mono ?_); (case side1 => repeat (first | exact (Kd.R_reads' HO_378000.out).2.2 | (with_reducible refine Kd.C_alloc ?_ _) | (with_reducible refine Kd.C_drewN ?_ _) | (with_reducible refine Kd.C_drew ?_))); (case side2 => exact (Kd.R_reads' HO_378000.out).2.1); (case side3 => exact Glob.below (by repeat (first | (with_reducible first | exact HB.out | apply below_alloc | apply pw_below_drewN | apply below_drew1 | refine below_set ?_ GE377.out) | exact HB.out)) HG.out); rintro e w64 ⟨rfl, hb⟩; refine ⟨_, rfl, ?_⟩; have n0_ := Aside0.mk (Kd.R_below (by (with_reducible repeat (first | apply Kd.R_alloc | apply Kd.R_drewN | apply Kd.R_drew)); exact HO_378000.out) hb); have n1_ := Aside0.mk (blk_below (g := gb377) (o := .cells #[.slice Ao34 x378000_1.length co34, .int .i32 a1] 28 (0, 0)) (by (with_reducible repeat (first | refine blk_drewN ?_ _ | refine blk_drew ?_ | refine blk_alloc ?_ _)); exact BK377.out) hb); have n2_ := Aside0.mk (below_step (by repeat (first | (with_reducible first | exact HB.out | apply below_alloc | apply pw_below_drewN | apply below_drew1 | refine below_set ?_ GE377.out) | exact HB.out)) hb); clear HO_378000; clear BK377; clear HB; have HO_378000 := n0_; have BK377 := n1_; have HB := n2_; clear n0_ n1_ n2_; (try clear hb); (try clear hb2); (try clear hk); (try clear hi); have hcz65_0 : w64.cell? ⟨gb377, 0, none⟩ = some (.slice Ao34 x378000_1.length co34) := (blk_cell BK377.out 0).trans rfl; have hcz65_1 : w64.cell? ⟨gb377, 1, none⟩ = some (.int .i32 a1) := (blk_cell BK377.out 1).trans rfl; have hfz65_0 := blk_frozen BK377.out 0; have hfz65_1 := blk_frozen BK377.out 1) | (go_at_call 16; (with_reducible refine (calendar_Calendar_Len.calls _ _ x378000_1 a1 t405 _ ?side1 ?side2 A62.out).mono ?_); (case side1 => repeat (first | exact (Kd.R_reads' HO_378000.out).2.2 | (with_reducible refine Kd.C_alloc ?_ _) | (with_reducible refine Kd.C_drewN ?_ _) | (with_reducible refine Kd.C_drew ?_))); (case side2 => exact (Kd.R_reads' HO_378000.out).2.1); rintro e w66 ⟨rfl, hb⟩; have n0_ := Aside0.mk (Kd.R_below (by (with_reducible repeat (first | apply Kd.R_alloc | apply Kd.R_drewN | apply Kd.R_drew)); exact HO_378000.out) hb); have n1_ := Aside0.mk (blk_below (g := gb377) (o := .cells #[.slice Ao34 x378000_1.length co34, .int .i32 a1] 28 (0, 0)) (by (with_reducible repeat (first | refine blk_drewN ?_ _ | refine blk_drew ?_ | refine blk_alloc ?_ _)); exact BK377.out) hb); have n2_ := Aside0.mk (below_step (by repeat (first | (with_reducible first | exact HB.out | apply below_alloc | apply pw_below_drewN | apply below_drew1 | refine below_set ?_ GE377.out) | exact HB.out)) hb); clear HO_378000; clear BK377; clear HB; have HO_378000 := n0_; have BK377 := n1_; have HB := n2_; clear n0_ n1_ n2_; (try clear hb); (try clear hb2); (try clear hk); (try clear hi)))
             go_ret
             exact ⟨by first | rfl | (simp [errW_none, errW_some] <;> rfl) | (simp [*, errW_none, errW_some] <;> rfl), by repeat (first | (with_reducible first | exact HB.out | apply below_alloc | apply pw_below_drewN | apply below_drew1 | refine below_set ?_ GE377.out) | exact HB.out)⟩
            ·rw [if_neg c61] at H
             have c61b0 : (t404 == 2) = false := beq_eq_false_iff_ne.mpr c61
             have c61b1 : (t404 != 2) = true := bne_iff_ne.mpr c61
             obtain rfl := Option.some.inj H
             have hcz67_0 : wc.cell? ⟨gb377, 0, none⟩ = some (.slice Ao34 x378000_1.length co34) := (blk_cell BK377.out 0).trans rfl
             have hcz67_1 : wc.cell? ⟨gb377, 1, none⟩ = some (.int .i32 a1) := (blk_cell BK377.out 1).trans rfl
             have hfz67_0 := blk_frozen BK377.out 0
             have hfz67_1 := blk_frozen BK377.out 1
             go_wp2_with (first | ((with_reducible refine gate_callee (f := 18) rfl ?_); refine goesL_ (some 83) rfl rfl Tryz.func18 (by kernel_rfl) rfl #[.agg #[.slice Ao34 x378000_1.length co34, .int .i32 a1]] rfl (by (try simp only [List.map_toArray, List.map_cons, List.map_nil]); first | done | rfl | (simp only [List.length_drop, List.length_take]; rfl)) ?_; (with_reducible refine (calendar_Calendar_Check.calls kj56 _ _ x378000_1 a1 t404 _ ?side1 ?side2 ?side3 A60.out).mono ?_); (case side1 => repeat (first | exact (Kd.R_reads' HO_378000.out).2.2 | (with_reducible refine Kd.C_alloc ?_ _) | (with_reducible refine Kd.C_drewN ?_ _) | (with_reducible refine Kd.C_drew ?_))); (case side2 => exact (Kd.R_reads' HO_378000.out).2.1); (case side3 => exact Glob.below (by repeat (first | (with_reducible first | exact HB.out | apply below_alloc | apply pw_below_drewN | apply below_drew1 | refine below_set ?_ GE377.out) | exact HB.out)) HG.out); rintro e w68 ⟨rfl, hb⟩; refine ⟨_, rfl, ?_⟩; have n0_ := Aside0.mk (Kd.R_below (by (with_reducible repeat (first | apply Kd.R_alloc | apply Kd.R_drewN | apply Kd.R_drew)); exact HO_378000.out) hb); have n1_ := Aside0.mk (blk_below (g := gb377) (o := .cells #[.slice Ao34 x378000_1.length co34, .int .i32 a1] 28 (0, 0)) (by (with_reducible repeat (first | refine blk_drewN ?_ _ | refine blk_drew ?_ | refine blk_alloc ?_ _)); exact BK377.out) hb); have n2_ := Aside0.mk (below_step (by repeat (first | (with_reducible first | exact HB.out | apply below_alloc | apply pw_below_drewN | apply below_drew1 | refine below_set ?_ GE377.out) | exact HB.out)) hb); clear HO_378000; clear BK377; clear HB; have HO_378000 := n0_; have BK377 := n1_; have HB := n2_; clear n0_ n1_ n2_; (try clear hb); (try clear hb2); (try clear hk); (try clear hi)))
             go_ret
             exact ⟨by first | rfl | (simp [errW_none, errW_some] <;> rfl) | (simp [*, errW_none, errW_some] <;> rfl), by repeat (first | (with_reducible first | exact HB.out | apply below_alloc | apply pw_below_drewN | apply below_drew1 | refine below_set ?_ GE377.out) | exact HB.out)⟩
           ·replace c59 := Bool.eq_false_iff.mpr c59
            subst c59
            have H1 : ((calendar_Calendar_Check.f kj56 x378000_1 a1).bind fun t406 => (if t406 = x10_31 then ((calendar_Calendar_Len.f x378000_1 a1).bind fun t407 => (some (t407 == (l0.length : Int)))) else (some false))) = some r := by rw [if_neg (show ¬ (false = true) by decide)] at H; exact H
            clear H
            have H := H1
            clear H1
            replace H := Option.bind_eq_some_iff.mp H
            obtain ⟨t406, A690, H⟩ := H
            replace H : (if t406 = x10_31 then ((calendar_Calendar_Len.f x378000_1 a1).bind fun t407 => (some (t407 == (l0.length : Int)))) else (some false)) = some r := H
            have A69 := Aside0.mk A690
            clear A690
            by_cases c70 : t406 = x10_31
            ·rw [if_pos c70] at H
             have c70b0 : (t406 == x10_31) = true := beq_iff_eq.mpr c70
             have c70b1 : (t406 != x10_31) = false := bne_eq_false_iff_eq.mpr c70
             clear c70
             replace H := Option.bind_eq_some_iff.mp H
             obtain ⟨t407, A710, H⟩ := H
             replace H : (some (t407 == (l0.length : Int))) = some r := H
             have A71 := Aside0.mk A710
             clear A710
             obtain rfl := Option.some.inj H
             have hcz72_0 : wc.cell? ⟨gb377, 0, none⟩ = some (.slice Ao34 x378000_1.length co34) := (blk_cell BK377.out 0).trans rfl
             have hcz72_1 : wc.cell? ⟨gb377, 1, none⟩ = some (.int .i32 a1) := (blk_cell BK377.out 1).trans rfl
             have hfz72_0 := blk_frozen BK377.out 0
             have hfz72_1 := blk_frozen BK377.out 1
             go_wp2_with (first | ((with_reducible refine gate_callee (f := 18) rfl ?_); refine goesL_ (some 83) rfl rfl Tryz.func18 (by kernel_rfl) rfl #[.agg #[.slice Ao34 x378000_1.length co34, .int .i32 a1]] rfl (by (try simp only [List.map_toArray, List.map_cons, List.map_nil]); first | done | rfl | (simp only [List.length_drop, List.length_take]; rfl)) ?_; (with_reducible refine (calendar_Calendar_Check.calls kj56 _ _ x378000_1 a1 t406 _ ?side1 ?side2 ?side3 A69.out).mono ?_); (case side1 => repeat (first | exact (Kd.R_reads' HO_378000.out).2.2 | (with_reducible refine Kd.C_alloc ?_ _) | (with_reducible refine Kd.C_drewN ?_ _) | (with_reducible refine Kd.C_drew ?_))); (case side2 => exact (Kd.R_reads' HO_378000.out).2.1); (case side3 => exact Glob.below (by repeat (first | (with_reducible first | exact HB.out | apply below_alloc | apply pw_below_drewN | apply below_drew1 | refine below_set ?_ GE377.out) | exact HB.out)) HG.out); rintro e w73 ⟨rfl, hb⟩; refine ⟨_, rfl, ?_⟩; have n0_ := Aside0.mk (Kd.R_below (by (with_reducible repeat (first | apply Kd.R_alloc | apply Kd.R_drewN | apply Kd.R_drew)); exact HO_378000.out) hb); have n1_ := Aside0.mk (blk_below (g := gb377) (o := .cells #[.slice Ao34 x378000_1.length co34, .int .i32 a1] 28 (0, 0)) (by (with_reducible repeat (first | refine blk_drewN ?_ _ | refine blk_drew ?_ | refine blk_alloc ?_ _)); exact BK377.out) hb); have n2_ := Aside0.mk (below_step (by repeat (first | (with_reducible first | exact HB.out | apply below_alloc | apply pw_below_drewN | apply below_drew1 | refine below_set ?_ GE377.out) | exact HB.out)) hb); clear HO_378000; clear BK377; clear HB; have HO_378000 := n0_; have BK377 := n1_; have HB := n2_; clear n0_ n1_ n2_; (try clear hb); (try clear hb2); (try clear hk); (try clear hi); have hcz74_0 : w73.cell? ⟨gb377, 0, none⟩ = some (.slice Ao34 x378000_1.length co34) := (blk_cell BK377.out 0).trans rfl; have hcz74_1 : w73.cell? ⟨gb377, 1, none⟩ = some (.int .i32 a1) := (blk_cell BK377.out 1).trans rfl; have hfz74_0 := blk_frozen BK377.out 0; have hfz74_1 := blk_frozen BK377.out 1) | (go_at_call 16; (with_reducible refine (calendar_Calendar_Len.calls _ _ x378000_1 a1 t407 _ ?side1 ?side2 A71.out).mono ?_); (case side1 => repeat (first | exact (Kd.R_reads' HO_378000.out).2.2 | (with_reducible refine Kd.C_alloc ?_ _) | (with_reducible refine Kd.C_drewN ?_ _) | (with_reducible refine Kd.C_drew ?_))); (case side2 => exact (Kd.R_reads' HO_378000.out).2.1); rintro e w75 ⟨rfl, hb⟩; have n0_ := Aside0.mk (Kd.R_below (by (with_reducible repeat (first | apply Kd.R_alloc | apply Kd.R_drewN | apply Kd.R_drew)); exact HO_378000.out) hb); have n1_ := Aside0.mk (blk_below (g := gb377) (o := .cells #[.slice Ao34 x378000_1.length co34, .int .i32 a1] 28 (0, 0)) (by (with_reducible repeat (first | refine blk_drewN ?_ _ | refine blk_drew ?_ | refine blk_alloc ?_ _)); exact BK377.out) hb); have n2_ := Aside0.mk (below_step (by repeat (first | (with_reducible first | exact HB.out | apply below_alloc | apply pw_below_drewN | apply below_drew1 | refine below_set ?_ GE377.out) | exact HB.out)) hb); clear HO_378000; clear BK377; clear HB; have HO_378000 := n0_; have BK377 := n1_; have HB := n2_; clear n0_ n1_ n2_; (try clear hb); (try clear hb2); (try clear hk); (try clear hi)))
             go_ret
             exact ⟨by first | rfl | (simp [errW_none, errW_some] <;> rfl) | (simp [*, errW_none, errW_some] <;> rfl), by repeat (first | (with_reducible first | exact HB.out | apply below_alloc | apply pw_below_drewN | apply below_drew1 | refine below_set ?_ GE377.out) | exact HB.out)⟩
            ·rw [if_neg c70] at H
             have c70b0 : (t406 == x10_31) = false := beq_eq_false_iff_ne.mpr c70
             have c70b1 : (t406 != x10_31) = true := bne_iff_ne.mpr c70
             obtain rfl := Option.some.inj H
             have hcz76_0 : wc.cell? ⟨gb377, 0, none⟩ = some (.slice Ao34 x378000_1.length co34) := (blk_cell BK377.out 0).trans rfl
             have hcz76_1 : wc.cell? ⟨gb377, 1, none⟩ = some (.int .i32 a1) := (blk_cell BK377.out 1).trans rfl
             have hfz76_0 := blk_frozen BK377.out 0
             have hfz76_1 := blk_frozen BK377.out 1
             go_wp2_with (first | ((with_reducible refine gate_callee (f := 18) rfl ?_); refine goesL_ (some 83) rfl rfl Tryz.func18 (by kernel_rfl) rfl #[.agg #[.slice Ao34 x378000_1.length co34, .int .i32 a1]] rfl (by (try simp only [List.map_toArray, List.map_cons, List.map_nil]); first | done | rfl | (simp only [List.length_drop, List.length_take]; rfl)) ?_; (with_reducible refine (calendar_Calendar_Check.calls kj56 _ _ x378000_1 a1 t406 _ ?side1 ?side2 ?side3 A69.out).mono ?_); (case side1 => repeat (first | exact (Kd.R_reads' HO_378000.out).2.2 | (with_reducible refine Kd.C_alloc ?_ _) | (with_reducible refine Kd.C_drewN ?_ _) | (with_reducible refine Kd.C_drew ?_))); (case side2 => exact (Kd.R_reads' HO_378000.out).2.1); (case side3 => exact Glob.below (by repeat (first | (with_reducible first | exact HB.out | apply below_alloc | apply pw_below_drewN | apply below_drew1 | refine below_set ?_ GE377.out) | exact HB.out)) HG.out); rintro e w77 ⟨rfl, hb⟩; refine ⟨_, rfl, ?_⟩; have n0_ := Aside0.mk (Kd.R_below (by (with_reducible repeat (first | apply Kd.R_alloc | apply Kd.R_drewN | apply Kd.R_drew)); exact HO_378000.out) hb); have n1_ := Aside0.mk (blk_below (g := gb377) (o := .cells #[.slice Ao34 x378000_1.length co34, .int .i32 a1] 28 (0, 0)) (by (with_reducible repeat (first | refine blk_drewN ?_ _ | refine blk_drew ?_ | refine blk_alloc ?_ _)); exact BK377.out) hb); have n2_ := Aside0.mk (below_step (by repeat (first | (with_reducible first | exact HB.out | apply below_alloc | apply pw_below_drewN | apply below_drew1 | refine below_set ?_ GE377.out) | exact HB.out)) hb); clear HO_378000; clear BK377; clear HB; have HO_378000 := n0_; have BK377 := n1_; have HB := n2_; clear n0_ n1_ n2_; (try clear hb); (try clear hb2); (try clear hk); (try clear hi)))
             go_ret
             exact ⟨by first | rfl | (simp [errW_none, errW_some] <;> rfl) | (simp [*, errW_none, errW_some] <;> rfl), by repeat (first | (with_reducible first | exact HB.out | apply below_alloc | apply pw_below_drewN | apply below_drew1 | refine below_set ?_ GE377.out) | exact HB.out)⟩
      ·rw [if_neg c31] at H
       exact absurd H (by simp)
 ·replace c5 := Bool.eq_false_iff.mpr c5
  subst c5
  have H1 : (some false) = some r := by rw [if_neg (show ¬ (false = true) by decide)] at H; exact H
  clear H
  have H := H1
  clear H1
  obtain rfl := Option.some.inj H
  go_enter Tryz.func6, Tryz.ntmps6
  go_wp2_with (first | ((with_reducible refine gate_callee (f := 12) rfl ?_); refine goesL_ (some 14) rfl rfl Tryz.func12 (by kernel_rfl) rfl #[] rfl (by (try simp only [List.map_toArray, List.map_cons, List.map_nil]); first | done | rfl | (simp only [List.length_drop, List.length_take]; rfl)) ?_; (with_reducible refine (transposallaw08_Awake.calls k  false _ ?side1 A4.out).mono ?_); (case side1 => exact Glob.below (by repeat (first | (with_reducible first | exact HB.out | apply below_alloc | apply pw_below_drewN | apply below_drew1) | exact HB.out)) HG.out); rintro e w78 ⟨rfl, hb⟩; refine ⟨_, rfl, ?_⟩; have n0_ := Aside0.mk (below_step (by repeat (first | (with_reducible first | exact HB.out | apply below_alloc | apply pw_below_drewN | apply below_drew1) | exact HB.out)) hb); clear HB; have HB := n0_; clear n0_; (try clear hb); (try clear hb2); (try clear hk); (try clear hi)))
  go_ret
  exact ⟨by first | rfl | (simp [errW_none, errW_some] <;> rfl) | (simp [*, errW_none, errW_some] <;> rfl), by repeat (first | (with_reducible first | exact HB.out | apply below_alloc | apply pw_below_drewN | apply below_drew1) | exact HB.out)⟩

/-- THE ONE PURE STATEMENT of transposallaw08_CalendarChecks: yours. -/
def transposallaw08_CalendarChecks.Pure : Prop := ∀ (l0 : List Int) (a1 : Int) (a2 : Bool), l0.length ≤ maxLen → l0.length * 4 ≤ 140737488351232 → (∀ x ∈ l0, (Lit.int .i32 x).wf = true) → (Lit.int .i32 a1).wf = true → ∃ k, transposallaw08_CalendarChecks.f k l0 a1 a2 = some true

end Go.Proofs.YtfpfilmdlconhaaGreatDoor.XA
