-- Written by a program of this session's (wip/xp) out of the translation; given functions by hand.
import Derived.Test.YtfpfilmdlconhaaGreatDoorXA0
import Derived.Test.YtfpfilmdlconhaaGreatDoorXA2
import Derived.Test.YtfpfilmdlconhaaGreatDoorXA9
namespace Go.Proofs.YtfpfilmdlconhaaGreatDoor.XA
open Go.RowKit Go.Proofs.YtfpfilmdlconhaaGreatDoorW.PrintWords Go.Proofs.YtfpfilmdlconhaaGreatDoorW.PrintLast Go.Proofs.YtfpfilmdlconhaaGreatDoorW.PrintMore
attribute [local go_sem] max2_int min2_int max_two min_two max_three min_three max_four min_four   -- for this text's walks alone
set_option linter.unusedVariables false
set_option linter.unusedSimpArgs false

/-! ### transposallaw08_CalendarSames: function 3 -/
mutual
def transposallaw08_CalendarSames.j0 : Nat → Bool → List Int → Int → List Int → Int → Option (Bool)
 | 0, _, _, _, _, _ => none
 | k + 1, x13, x310000, x310001, x311000, x311001 => transposallaw08_CalendarSames.l0 k x13 (mn (x310000.length : Int) (x311000.length : Int)) 0 x310000 x310001 x311000 x311001
def transposallaw08_CalendarSames.l0 : Nat → Bool → Int → Int → List Int → Int → List Int → Int → Option (Bool)
 | 0, _, _, _, _, _, _, _ => none
 | k + 1, x13, x46, x47, x310000, x310001, x311000, x311001 => if x47 < x46 then (if x13 = true then (if 0 ≤ x47 then (if x47 < (x310000.length : Int) then (if x47 < (x311000.length : Int) then (transposallaw08_CalendarSames.l0 k ((rd x310000 x47) == (rd x311000 x47)) x46 (wrap64 (x47 + 1)) x310000 x310001 x311000 x311001) else (none)) else (none)) else (none)) else (transposallaw08_CalendarSames.l0 k false x46 (wrap64 (x47 + 1)) x310000 x310001 x311000 x311001)) else ((calendar_Same.f k x310000 x310001 x311000 x311001).bind fun t313 => (some (t313 == x13)))
def transposallaw08_CalendarSames.j2 : Nat → Bool → List Int → Int → List Int → Int → Option (Bool)
 | 0, _, _, _, _, _ => none
 | k + 1, x13, x323000, x323001, x324000, x324001 => transposallaw08_CalendarSames.l1 k x13 (mn (x323000.length : Int) (x324000.length : Int)) 0 x323000 x323001 x324000 x324001
def transposallaw08_CalendarSames.l1 : Nat → Bool → Int → Int → List Int → Int → List Int → Int → Option (Bool)
 | 0, _, _, _, _, _, _, _ => none
 | k + 1, x13, x46, x47, x323000, x323001, x324000, x324001 => if x47 < x46 then (if x13 = true then (if 0 ≤ x47 then (if x47 < (x323000.length : Int) then (if x47 < (x324000.length : Int) then (transposallaw08_CalendarSames.l1 k ((rd x323000 x47) == (rd x324000 x47)) x46 (wrap64 (x47 + 1)) x323000 x323001 x324000 x324001) else (none)) else (none)) else (none)) else (transposallaw08_CalendarSames.l1 k false x46 (wrap64 (x47 + 1)) x323000 x323001 x324000 x324001)) else ((calendar_Same.f k x323000 x323001 x324000 x324001).bind fun t326 => (some (t326 == x13)))
end
def transposallaw08_CalendarSames.f (k : Nat) (a0 : Int) (a1 : Int) (l2 : List Int) (l3 : List Int) (a4 : Bool) : Option (Bool) := (transposallaw08_Awake.f k).bind fun t300 => (if t300 = true then (if a4 = true then ((transposallaw08_Make.f k a0 l2).bind fun bt301 => ((transposallaw08_Make.f k a0 l2).bind fun bt305 => (if (bt301.1.length : Int) = (bt305.1.length : Int) then (transposallaw08_CalendarSames.j0 k (bt301.2 == bt305.2) bt301.1 bt301.2 bt305.1 bt305.2) else (transposallaw08_CalendarSames.j0 k false bt301.1 bt301.2 bt305.1 bt305.2)))) else ((transposallaw08_Make.f k a0 l2).bind fun bt314 => ((transposallaw08_Make.f k a1 l3).bind fun bt318 => (if (bt314.1.length : Int) = (bt318.1.length : Int) then (transposallaw08_CalendarSames.j2 k (bt314.2 == bt318.2) bt314.1 bt314.2 bt318.1 bt318.2) else (transposallaw08_CalendarSames.j2 k false bt314.1 bt314.2 bt318.1 bt318.2))))) else (some false))
theorem transposallaw08_CalendarSames.mono_l : ∀ k, (∀ y0 y1 y2 y3 y4, LeO (transposallaw08_CalendarSames.j0 k y0 y1 y2 y3 y4) (transposallaw08_CalendarSames.j0 (k + 1) y0 y1 y2 y3 y4)) ∧ (∀ y0 y1 y2 y3 y4 y5 y6, LeO (transposallaw08_CalendarSames.l0 k y0 y1 y2 y3 y4 y5 y6) (transposallaw08_CalendarSames.l0 (k + 1) y0 y1 y2 y3 y4 y5 y6)) ∧ (∀ y0 y1 y2 y3 y4, LeO (transposallaw08_CalendarSames.j2 k y0 y1 y2 y3 y4) (transposallaw08_CalendarSames.j2 (k + 1) y0 y1 y2 y3 y4)) ∧ (∀ y0 y1 y2 y3 y4 y5 y6, LeO (transposallaw08_CalendarSames.l1 k y0 y1 y2 y3 y4 y5 y6) (transposallaw08_CalendarSames.l1 (k + 1) y0 y1 y2 y3 y4 y5 y6))
 | 0 => ⟨fun _ _ _ _ _ r h => by simp [transposallaw08_CalendarSames.j0] at h, fun _ _ _ _ _ _ _ r h => by simp [transposallaw08_CalendarSames.l0] at h, fun _ _ _ _ _ r h => by simp [transposallaw08_CalendarSames.j2] at h, fun _ _ _ _ _ _ _ r h => by simp [transposallaw08_CalendarSames.l1] at h⟩
 | k + 1 => by
  obtain ⟨ih0, ih1, ih2, ih3⟩ := transposallaw08_CalendarSames.mono_l k
  refine ⟨?_, ?_, ?_, ?_⟩
  ·intro y0 y1 y2 y3 y4
   unfold transposallaw08_CalendarSames.j0
   repeat' first
   | (with_reducible exact ih0 _ _ _ _ _)
   | (with_reducible exact ih1 _ _ _ _ _ _ _)
   | (with_reducible exact ih2 _ _ _ _ _)
   | (with_reducible exact ih3 _ _ _ _ _ _ _)
   | (with_reducible exact calendar_Same.mono _ _ _ _ _)
   | (with_reducible exact transposallaw08_Awake.mono _)
   | (with_reducible exact transposallaw08_Make.mono _ _ _)
   | (with_reducible exact LeO.refl _)
   | (with_reducible exact LeO.none _)
   | (with_reducible refine LeO.ite ?_ ?_)
   | (with_reducible refine LeO.bind ?_ (fun _ => ?_))
   | exact ih0 _ _ _ _ _
   | exact ih1 _ _ _ _ _ _ _
   | exact ih2 _ _ _ _ _
   | exact ih3 _ _ _ _ _ _ _
   | exact calendar_Same.mono _ _ _ _ _
   | exact transposallaw08_Awake.mono _
   | exact transposallaw08_Make.mono _ _ _
   | exact LeO.none _
   | refine LeO.ite ?_ ?_
   | refine LeO.bind ?_ (fun _ => ?_)
  ·intro y0 y1 y2 y3 y4 y5 y6
   unfold transposallaw08_CalendarSames.l0
   repeat' first
   | (with_reducible exact ih0 _ _ _ _ _)
   | (with_reducible exact ih1 _ _ _ _ _ _ _)
   | (with_reducible exact ih2 _ _ _ _ _)
   | (with_reducible exact ih3 _ _ _ _ _ _ _)
   | (with_reducible exact calendar_Same.mono _ _ _ _ _)
   | (with_reducible exact transposallaw08_Awake.mono _)
   | (with_reducible exact transposallaw08_Make.mono _ _ _)
   | (with_reducible exact LeO.refl _)
   | (with_reducible exact LeO.none _)
   | (with_reducible refine LeO.ite ?_ ?_)
   | (with_reducible refine LeO.bind ?_ (fun _ => ?_))
   | exact ih0 _ _ _ _ _
   | exact ih1 _ _ _ _ _ _ _
   | exact ih2 _ _ _ _ _
   | exact ih3 _ _ _ _ _ _ _
   | exact calendar_Same.mono _ _ _ _ _
   | exact transposallaw08_Awake.mono _
   | exact transposallaw08_Make.mono _ _ _
   | exact LeO.none _
   | refine LeO.ite ?_ ?_
   | refine LeO.bind ?_ (fun _ => ?_)
  ·intro y0 y1 y2 y3 y4
   unfold transposallaw08_CalendarSames.j2
   repeat' first
   | (with_reducible exact ih0 _ _ _ _ _)
   | (with_reducible exact ih1 _ _ _ _ _ _ _)
   | (with_reducible exact ih2 _ _ _ _ _)
   | (with_reducible exact ih3 _ _ _ _ _ _ _)
   | (with_reducible exact calendar_Same.mono _ _ _ _ _)
   | (with_reducible exact transposallaw08_Awake.mono _)
   | (with_reducible exact transposallaw08_Make.mono _ _ _)
   | (with_reducible exact LeO.refl _)
   | (with_reducible exact LeO.none _)
   | (with_reducible refine LeO.ite ?_ ?_)
   | (with_reducible refine LeO.bind ?_ (fun _ => ?_))
   | exact ih0 _ _ _ _ _
   | exact ih1 _ _ _ _ _ _ _
   | exact ih2 _ _ _ _ _
   | exact ih3 _ _ _ _ _ _ _
   | exact calendar_Same.mono _ _ _ _ _
   | exact transposallaw08_Awake.mono _
   | exact transposallaw08_Make.mono _ _ _
   | exact LeO.none _
   | refine LeO.ite ?_ ?_
   | refine LeO.bind ?_ (fun _ => ?_)
  ·intro y0 y1 y2 y3 y4 y5 y6
   unfold transposallaw08_CalendarSames.l1
   repeat' first
   | (with_reducible exact ih0 _ _ _ _ _)
   | (with_reducible exact ih1 _ _ _ _ _ _ _)
   | (with_reducible exact ih2 _ _ _ _ _)
   | (with_reducible exact ih3 _ _ _ _ _ _ _)
   | (with_reducible exact calendar_Same.mono _ _ _ _ _)
   | (with_reducible exact transposallaw08_Awake.mono _)
   | (with_reducible exact transposallaw08_Make.mono _ _ _)
   | (with_reducible exact LeO.refl _)
   | (with_reducible exact LeO.none _)
   | (with_reducible refine LeO.ite ?_ ?_)
   | (with_reducible refine LeO.bind ?_ (fun _ => ?_))
   | exact ih0 _ _ _ _ _
   | exact ih1 _ _ _ _ _ _ _
   | exact ih2 _ _ _ _ _
   | exact ih3 _ _ _ _ _ _ _
   | exact calendar_Same.mono _ _ _ _ _
   | exact transposallaw08_Awake.mono _
   | exact transposallaw08_Make.mono _ _ _
   | exact LeO.none _
   | refine LeO.ite ?_ ?_
   | refine LeO.bind ?_ (fun _ => ?_)
theorem transposallaw08_CalendarSames.mono : ∀ a0 a1 a2 a3 a4 k, LeO (transposallaw08_CalendarSames.f k a0 a1 a2 a3 a4) (transposallaw08_CalendarSames.f (k + 1) a0 a1 a2 a3 a4) := by
 intro a0 a1 a2 a3 a4 k
 obtain ⟨ih0, ih1, ih2, ih3⟩ := transposallaw08_CalendarSames.mono_l k
 unfold transposallaw08_CalendarSames.f
 repeat' first
   | (with_reducible exact ih0 _ _ _ _ _)
   | (with_reducible exact ih1 _ _ _ _ _ _ _)
   | (with_reducible exact ih2 _ _ _ _ _)
   | (with_reducible exact ih3 _ _ _ _ _ _ _)
   | (with_reducible exact calendar_Same.mono _ _ _ _ _)
   | (with_reducible exact transposallaw08_Awake.mono _)
   | (with_reducible exact transposallaw08_Make.mono _ _ _)
   | (with_reducible exact LeO.refl _)
   | (with_reducible exact LeO.none _)
   | (with_reducible refine LeO.ite ?_ ?_)
   | (with_reducible refine LeO.bind ?_ (fun _ => ?_))
   | exact ih0 _ _ _ _ _
   | exact ih1 _ _ _ _ _ _ _
   | exact ih2 _ _ _ _ _
   | exact ih3 _ _ _ _ _ _ _
   | exact calendar_Same.mono _ _ _ _ _
   | exact transposallaw08_Awake.mono _
   | exact transposallaw08_Make.mono _ _ _
   | exact LeO.none _
   | refine LeO.ite ?_ ?_
   | refine LeO.bind ?_ (fun _ => ?_)
set_option maxHeartbeats 8000000 in
set_option maxRecDepth 100000 in
theorem transposallaw08_CalendarSames.calls (k : Nat) (a0 : Int) (a1 : Int) (A2 : Option Addr) (c2 : Nat) (l2 : List Int) (A3 : Option Addr) (c3 : Nat) (l3 : List Int) (a4 : Bool) (r : Bool) (w : World) (hr2 : Kd.C (Kd.int .u8) w A2 l2.length l2) (hc2 : l2.length ≤ c2) (hr3 : Kd.C (Kd.int .u8) w A3 l3.length l3) (hc3 : l3.length ≤ c3) (hG : Glob w) (h : transposallaw08_CalendarSames.f k a0 a1 l2 l3 a4 = some r) :
  Calls Tryz.prog 3 #[.int .i16 a0, .int .i16 a1, .slice A2 l2.length c2, .slice A3 l3.length c3, .bool a4] w fun e w' => e = .returned (.bool r) ∧ Below w.heap.size w w' := by
 have hu28 := Tryz.underlying28
 have HG := Aside0.mk hG
 clear hG
 have HR2 := Aside0.mk hr2
 have HC2 := Aside0.mk hc2
 clear hr2 hc2
 have HR3 := Aside0.mk hr3
 have HC3 := Aside0.mk hc3
 clear hr3 hc3
 have HB := Aside0.mk (Below.refl w.heap.size w)
 have H : ((transposallaw08_Awake.f k).bind fun t300 => (if t300 = true then (if a4 = true then ((transposallaw08_Make.f k a0 l2).bind fun bt301 => ((transposallaw08_Make.f k a0 l2).bind fun bt305 => (if (bt301.1.length : Int) = (bt305.1.length : Int) then (transposallaw08_CalendarSames.j0 k (bt301.2 == bt305.2) bt301.1 bt301.2 bt305.1 bt305.2) else (transposallaw08_CalendarSames.j0 k false bt301.1 bt301.2 bt305.1 bt305.2)))) else ((transposallaw08_Make.f k a0 l2).bind fun bt314 => ((transposallaw08_Make.f k a1 l3).bind fun bt318 => (if (bt314.1.length : Int) = (bt318.1.length : Int) then (transposallaw08_CalendarSames.j2 k (bt314.2 == bt318.2) bt314.1 bt314.2 bt318.1 bt318.2) else (transposallaw08_CalendarSames.j2 k false bt314.1 bt314.2 bt318.1 bt318.2))))) else (some false))) = some r := h
 clear h
 replace H := Option.bind_eq_some_iff.mp H
 obtain ⟨t300, A60, H⟩ := H
 replace H : (if t300 = true then (if a4 = true then ((transposallaw08_Make.f k a0 l2).bind fun bt301 => ((transposallaw08_Make.f k a0 l2).bind fun bt305 => (if (bt301.1.length : Int) = (bt305.1.length : Int) then (transposallaw08_CalendarSames.j0 k (bt301.2 == bt305.2) bt301.1 bt301.2 bt305.1 bt305.2) else (transposallaw08_CalendarSames.j0 k false bt301.1 bt301.2 bt305.1 bt305.2)))) else ((transposallaw08_Make.f k a0 l2).bind fun bt314 => ((transposallaw08_Make.f k a1 l3).bind fun bt318 => (if (bt314.1.length : Int) = (bt318.1.length : Int) then (transposallaw08_CalendarSames.j2 k (bt314.2 == bt318.2) bt314.1 bt314.2 bt318.1 bt318.2) else (transposallaw08_CalendarSames.j2 k false bt314.1 bt314.2 bt318.1 bt318.2))))) else (some false)) = some r := H
 have A6 := Aside0.mk A60
 clear A60
 by_cases c7 : t300 = true
 ·subst c7
  have H1 : (if a4 = true then ((transposallaw08_Make.f k a0 l2).bind fun bt301 => ((transposallaw08_Make.f k a0 l2).bind fun bt305 => (if (bt301.1.length : Int) = (bt305.1.length : Int) then (transposallaw08_CalendarSames.j0 k (bt301.2 == bt305.2) bt301.1 bt301.2 bt305.1 bt305.2) else (transposallaw08_CalendarSames.j0 k false bt301.1 bt301.2 bt305.1 bt305.2)))) else ((transposallaw08_Make.f k a0 l2).bind fun bt314 => ((transposallaw08_Make.f k a1 l3).bind fun bt318 => (if (bt314.1.length : Int) = (bt318.1.length : Int) then (transposallaw08_CalendarSames.j2 k (bt314.2 == bt318.2) bt314.1 bt314.2 bt318.1 bt318.2) else (transposallaw08_CalendarSames.j2 k false bt314.1 bt314.2 bt318.1 bt318.2))))) = some r := by rw [if_pos rfl] at H; exact H
  clear H
  have H := H1
  clear H1
  by_cases c8 : a4 = true
  ·subst c8
   have H1 : ((transposallaw08_Make.f k a0 l2).bind fun bt301 => ((transposallaw08_Make.f k a0 l2).bind fun bt305 => (if (bt301.1.length : Int) = (bt305.1.length : Int) then (transposallaw08_CalendarSames.j0 k (bt301.2 == bt305.2) bt301.1 bt301.2 bt305.1 bt305.2) else (transposallaw08_CalendarSames.j0 k false bt301.1 bt301.2 bt305.1 bt305.2)))) = some r := by rw [if_pos rfl] at H; exact H
   clear H
   have H := H1
   clear H1
   replace H := Option.bind_eq_some_iff.mp H
   obtain ⟨⟨t301, t304⟩, A90, H⟩ := H
   replace H : ((transposallaw08_Make.f k a0 l2).bind fun bt305 => (if (t301.length : Int) = (bt305.1.length : Int) then (transposallaw08_CalendarSames.j0 k (t304 == bt305.2) t301 t304 bt305.1 bt305.2) else (transposallaw08_CalendarSames.j0 k false t301 t304 bt305.1 bt305.2))) = some r := H
   have A9 := Aside0.mk A90
   clear A90
   replace H := Option.bind_eq_some_iff.mp H
   obtain ⟨⟨t305, t308⟩, A100, H⟩ := H
   replace H : (if (t301.length : Int) = (t305.length : Int) then (transposallaw08_CalendarSames.j0 k (t304 == t308) t301 t304 t305 t308) else (transposallaw08_CalendarSames.j0 k false t301 t304 t305 t308)) = some r := H
   have A10 := Aside0.mk A100
   clear A100
   have HC11 := Aside0.mk H
   clear H
   go_enter Tryz.func3, Tryz.ntmps3
   go_upto_region 6 with (first | (go_at_call 12; (with_reducible refine (transposallaw08_Awake.calls k  true _ ?side1 A6.out).mono ?_); (case side1 => exact Glob.below (by repeat (first | (with_reducible first | exact HB.out | apply below_alloc | apply pw_below_drewN | apply below_drew1) | exact HB.out)) HG.out); rintro e w12 ⟨rfl, hb⟩; have n0_ := Aside0.mk (below_step (by repeat (first | (with_reducible first | exact HB.out | apply below_alloc | apply pw_below_drewN | apply below_drew1) | exact HB.out)) hb); clear HB; have HB := n0_; clear n0_; (try clear hb); (try clear hb2); (try clear hk); (try clear hi)) | ((fail_if_success (have z_ := USA9_)); go_at_call 13; (with_reducible refine (transposallaw08_Make.calls k a0 _ _ l2 t301 t304 _ ?side1 ?side2 A9.out).mono ?_); (case side1 => repeat (first | exact (Kd.C_below HR2.out HB.out) | (with_reducible refine Kd.C_alloc ?_ _) | (with_reducible refine Kd.C_drewN ?_ _) | (with_reducible refine Kd.C_drew ?_))); (case side2 => exact HC2.out); rintro e w13 ⟨v302, rfl, ho0, hb⟩; have USA9_ := Aside0.mk (rfl : (0 : Nat) = 0); have n0_ := Aside0.mk (Kd.R_lower ho0 (below_size (by repeat (first | (with_reducible first | exact HB.out | apply below_alloc | apply pw_below_drewN | apply below_drew1) | exact HB.out)))); have n1_ := Aside0.mk (below_step (by repeat (first | (with_reducible first | exact HB.out | apply below_alloc | apply pw_below_drewN | apply below_drew1) | exact HB.out)) hb); clear HB; have HO303 := n0_; have HB := n1_; clear n0_ n1_; (try clear hb); (try clear hb2); (try clear hk); (try clear hi); (try clear ho0)) | ((fail_if_success (have z_ := USA10_)); go_at_call 13; (with_reducible refine (transposallaw08_Make.calls k a0 _ _ l2 t305 t308 _ ?side1 ?side2 A10.out).mono ?_); (case side1 => repeat (first | exact (Kd.C_below HR2.out HB.out) | (with_reducible refine Kd.C_alloc ?_ _) | (with_reducible refine Kd.C_drewN ?_ _) | (with_reducible refine Kd.C_drew ?_))); (case side2 => exact HC2.out); rintro e w14 ⟨v306, rfl, ho0, hb⟩; have USA10_ := Aside0.mk (rfl : (0 : Nat) = 0); have n0_ := Aside0.mk (Kd.R_elder' (by (with_reducible repeat (first | apply Kd.R_alloc | apply Kd.R_drewN | apply Kd.R_drew)); exact HO303.out) (Kd.R_base ho0) hb); have n1_ := Aside0.mk (Kd.R_lower (Kd.R_new' ho0 (Kd.R_lt (by (with_reducible repeat (first | apply Kd.R_alloc | apply Kd.R_drewN | apply Kd.R_drew)); exact HO303.out))) (below_size (by repeat (first | (with_reducible first | exact HB.out | apply below_alloc | apply pw_below_drewN | apply below_drew1) | exact HB.out)))); have n2_ := Aside0.mk (below_step (by repeat (first | (with_reducible first | exact HB.out | apply below_alloc | apply pw_below_drewN | apply below_drew1) | exact HB.out)) hb); clear HO303; clear HB; have HO303 := n0_; have HO307 := n1_; have HB := n2_; clear n0_ n1_ n2_; (try clear hb); (try clear hb2); (try clear hk); (try clear hi); (try clear ho0)) | ((with_reducible refine gate_dst (N := 11) rfl ?_); refine box_event ?hg (N := 11) ?hd (cs := #[.slice none 0 0, .int .i32 0]) (t := 28) ?hr ?_; (case hd => rfl); (case hg => rfl); (case hr => first | (go_simp; done) | (go_simp; rfl)); intro gb309 hg w15 hbox hb; have n0_ := Aside0.mk (Kd.R_below (by (with_reducible repeat (first | apply Kd.R_alloc | apply Kd.R_drewN | apply Kd.R_drew)); exact HO303.out) hb); have n1_ := Aside0.mk (Kd.R_below (by (with_reducible repeat (first | apply Kd.R_alloc | apply Kd.R_drewN | apply Kd.R_drew)); exact HO307.out) hb); have n2_ := Aside0.mk (below_step (by repeat (first | (with_reducible first | exact HB.out | apply below_alloc | apply pw_below_drewN | apply below_drew1) | exact HB.out)) hb); have n3_ := Aside0.mk (hbox); have n4_ := Aside0.mk ((by rw [hg]; exact (below_size (by repeat (first | (with_reducible first | exact HB.out | apply below_alloc | apply pw_below_drewN | apply below_drew1) | exact HB.out))) : w.heap.size ≤ gb309)); have n5_ := Aside0.mk ((by rw [hg]; exact (below_size (by repeat (first | (with_reducible first | exact HB.out | apply below_alloc | apply pw_below_drewN | apply below_drew1) | exact HB.out))) : w.heap.size ≤ gb309)); clear HO303; clear HO307; clear HB; have HO303 := n0_; have HO307 := n1_; have HB := n2_; have BK309 := n3_; have GW309 := n4_; have GE309 := n5_; clear n0_ n1_ n2_ n3_ n4_ n5_; clear hb hbox hg) | ((with_reducible refine gate_dst (N := 12) rfl ?_); refine box_event ?hg (N := 12) ?hd (cs := #[.slice none 0 0, .int .i32 0]) (t := 28) ?hr ?_; (case hd => rfl); (case hg => rfl); (case hr => first | (go_simp; done) | (go_simp; rfl)); intro gb310 hg w16 hbox hb; have n0_ := Aside0.mk (Kd.R_below (by (with_reducible repeat (first | apply Kd.R_alloc | apply Kd.R_drewN | apply Kd.R_drew)); exact HO303.out) hb); have n1_ := Aside0.mk (Kd.R_below (by (with_reducible repeat (first | apply Kd.R_alloc | apply Kd.R_drewN | apply Kd.R_drew)); exact HO307.out) hb); have n2_ := Aside0.mk (blk_below (g := gb309) (o := .cells #[.slice none 0 0, .int .i32 0] 28 (0, 0)) (by (with_reducible repeat (first | refine blk_drewN ?_ _ | refine blk_drew ?_ | refine blk_alloc ?_ _)); exact BK309.out) hb); have n3_ := Aside0.mk (below_step (by repeat (first | (with_reducible first | exact HB.out | apply below_alloc | apply pw_below_drewN | apply below_drew1 | refine below_set ?_ GE309.out) | exact HB.out)) hb); have n4_ := Aside0.mk (hbox); have n5_ := Aside0.mk ((by rw [hg]; exact (below_size (by repeat (first | (with_reducible first | exact HB.out | apply below_alloc | apply pw_below_drewN | apply below_drew1 | refine below_set ?_ GE309.out) | exact HB.out))) : w.heap.size ≤ gb310)); have n6_ := Aside0.mk ((by rw [hg]; exact (below_size (by repeat (first | (with_reducible first | exact HB.out | apply below_alloc | apply pw_below_drewN | apply below_drew1 | refine below_set ?_ GE309.out) | exact HB.out))) : w.heap.size ≤ gb310)); have n7_ := Aside0.mk ((by rw [hg]; exact Nat.ne_of_lt (blk_lt (g := gb309) (o := .cells #[.slice none 0 0, .int .i32 0] 28 (0, 0)) (by (with_reducible repeat (first | refine blk_drewN ?_ _ | refine blk_drew ?_ | refine blk_alloc ?_ _)); exact BK309.out)) : gb309 ≠ gb310)); have n8_ := Aside0.mk ((by rw [hg]; exact Nat.ne_of_gt (blk_lt (g := gb309) (o := .cells #[.slice none 0 0, .int .i32 0] 28 (0, 0)) (by (with_reducible repeat (first | refine blk_drewN ?_ _ | refine blk_drew ?_ | refine blk_alloc ?_ _)); exact BK309.out)) : gb310 ≠ gb309)); clear HO303; clear HO307; clear BK309; clear HB; have HO303 := n0_; have HO307 := n1_; have BK309 := n2_; have HB := n3_; have BK310 := n4_; have GW310 := n5_; have GE310 := n6_; have NB309_310 := n7_; have NB310_309 := n8_; clear n0_ n1_ n2_ n3_ n4_ n5_ n6_ n7_ n8_; clear hb hbox hg; obtain ⟨Ao17, co17, eo17⟩ := Kd.R_slice HO303.out; subst eo17; have hnb18 := NB309_310.out; have hnc18 := NB310_309.out; have hcz19_0 : w16.cell? ⟨gb309, 0, none⟩ = some (.slice none 0 0) := (blk_cell BK309.out 0).trans rfl; have hcz19_1 : w16.cell? ⟨gb309, 1, none⟩ = some (.int .i32 0) := (blk_cell BK309.out 1).trans rfl; have hfz19_0 := blk_frozen BK309.out 0; have hfz19_1 := blk_frozen BK309.out 1; obtain ⟨Ao20, co20, eo20⟩ := Kd.R_slice HO307.out; subst eo20; have hcz21_0 : w16.cell? ⟨gb310, 0, none⟩ = some (.slice none 0 0) := (blk_cell BK310.out 0).trans rfl; have hcz21_1 : w16.cell? ⟨gb310, 1, none⟩ = some (.int .i32 0) := (blk_cell BK310.out 1).trans rfl; have hfz21_0 := blk_frozen BK310.out 0; have hfz21_1 := blk_frozen BK310.out 1))
   repeat (go_quiet (first | ((fail_if_success (have z_ := USA6_)); go_at_call 12; (with_reducible refine (transposallaw08_Awake.calls k  true _ ?side1 A6.out).mono ?_); (case side1 => exact Glob.below (by repeat (first | (with_reducible first | exact HB.out | apply below_alloc | apply pw_below_drewN | apply below_drew1) | exact HB.out)) HG.out); rintro e w12 ⟨rfl, hb⟩; have USA6_ := Aside0.mk (rfl : (0 : Nat) = 0); have n0_ := Aside0.mk (below_step (by repeat (first | (with_reducible first | exact HB.out | apply below_alloc | apply pw_below_drewN | apply below_drew1) | exact HB.out)) hb); clear HB; have HB := n0_; clear n0_; (try clear hb); (try clear hb2); (try clear hk); (try clear hi)) | ((fail_if_success (have z_ := USA9_)); go_at_call 13; (with_reducible refine (transposallaw08_Make.calls k a0 _ _ l2 t301 t304 _ ?side1 ?side2 A9.out).mono ?_); (case side1 => repeat (first | exact (Kd.C_below HR2.out HB.out) | (with_reducible refine Kd.C_alloc ?_ _) | (with_reducible refine Kd.C_drewN ?_ _) | (with_reducible refine Kd.C_drew ?_))); (case side2 => exact HC2.out); rintro e w13 ⟨v302, rfl, ho0, hb⟩; have USA9_ := Aside0.mk (rfl : (0 : Nat) = 0); have n0_ := Aside0.mk (Kd.R_lower ho0 (below_size (by repeat (first | (with_reducible first | exact HB.out | apply below_alloc | apply pw_below_drewN | apply below_drew1) | exact HB.out)))); have n1_ := Aside0.mk (below_step (by repeat (first | (with_reducible first | exact HB.out | apply below_alloc | apply pw_below_drewN | apply below_drew1) | exact HB.out)) hb); clear HB; have HO303 := n0_; have HB := n1_; clear n0_ n1_; (try clear hb); (try clear hb2); (try clear hk); (try clear hi); (try clear ho0)) | ((fail_if_success (have z_ := USA10_)); go_at_call 13; (with_reducible refine (transposallaw08_Make.calls k a0 _ _ l2 t305 t308 _ ?side1 ?side2 A10.out).mono ?_); (case side1 => repeat (first | exact (Kd.C_below HR2.out HB.out) | (with_reducible refine Kd.C_alloc ?_ _) | (with_reducible refine Kd.C_drewN ?_ _) | (with_reducible refine Kd.C_drew ?_))); (case side2 => exact HC2.out); rintro e w14 ⟨v306, rfl, ho0, hb⟩; have USA10_ := Aside0.mk (rfl : (0 : Nat) = 0); have n0_ := Aside0.mk (Kd.R_elder' (by (with_reducible repeat (first | apply Kd.R_alloc | apply Kd.R_drewN | apply Kd.R_drew)); exact HO303.out) (Kd.R_base ho0) hb); have n1_ := Aside0.mk (Kd.R_lower (Kd.R_new' ho0 (Kd.R_lt (by (with_reducible repeat (first | apply Kd.R_alloc | apply Kd.R_drewN | apply Kd.R_drew)); exact HO303.out))) (below_size (by repeat (first | (with_reducible first | exact HB.out | apply below_alloc | apply pw_below_drewN | apply below_drew1) | exact HB.out)))); have n2_ := Aside0.mk (below_step (by repeat (first | (with_reducible first | exact HB.out | apply below_alloc | apply pw_below_drewN | apply below_drew1) | exact HB.out)) hb); clear HO303; clear HB; have HO303 := n0_; have HO307 := n1_; have HB := n2_; clear n0_ n1_ n2_; (try clear hb); (try clear hb2); (try clear hk); (try clear hi); (try clear ho0)) | ((with_reducible refine gate_dst (N := 11) rfl ?_); refine box_event ?hg (N := 11) ?hd (cs := #[.slice none 0 0, .int .i32 0]) (t := 28) ?hr ?_; (case hd => rfl); (case hg => rfl); (case hr => first | (go_simp; done) | (go_simp; rfl)); intro gb309 hg w15 hbox hb; have n0_ := Aside0.mk (Kd.R_below (by (with_reducible repeat (first | apply Kd.R_alloc | apply Kd.R_drewN | apply Kd.R_drew)); exact HO303.out) hb); have n1_ := Aside0.mk (Kd.R_below (by (with_reducible repeat (first | apply Kd.R_alloc | apply Kd.R_drewN | apply Kd.R_drew)); exact HO307.out) hb); have n2_ := Aside0.mk (below_step (by repeat (first | (with_reducible first | exact HB.out | apply below_alloc | apply pw_below_drewN | apply below_drew1) | exact HB.out)) hb); have n3_ := Aside0.mk (hbox); have n4_ := Aside0.mk ((by rw [hg]; exact (below_size (by repeat (first | (with_reducible first | exact HB.out | apply below_alloc | apply pw_below_drewN | apply below_drew1) | exact HB.out))) : w.heap.size ≤ gb309)); have n5_ := Aside0.mk ((by rw [hg]; exact (below_size (by repeat (first | (with_reducible first | exact HB.out | apply below_alloc | apply pw_below_drewN | apply below_drew1) | exact HB.out))) : w.heap.size ≤ gb309)); clear HO303; clear HO307; clear HB; have HO303 := n0_; have HO307 := n1_; have HB := n2_; have BK309 := n3_; have GW309 := n4_; have GE309 := n5_; clear n0_ n1_ n2_ n3_ n4_ n5_; clear hb hbox hg) | ((with_reducible refine gate_dst (N := 12) rfl ?_); refine box_event ?hg (N := 12) ?hd (cs := #[.slice none 0 0, .int .i32 0]) (t := 28) ?hr ?_; (case hd => rfl); (case hg => rfl); (case hr => first | (go_simp; done) | (go_simp; rfl)); intro gb310 hg w16 hbox hb; have n0_ := Aside0.mk (Kd.R_below (by (with_reducible repeat (first | apply Kd.R_alloc | apply Kd.R_drewN | apply Kd.R_drew)); exact HO303.out) hb); have n1_ := Aside0.mk (Kd.R_below (by (with_reducible repeat (first | apply Kd.R_alloc | apply Kd.R_drewN | apply Kd.R_drew)); exact HO307.out) hb); have n2_ := Aside0.mk (blk_below (g := gb309) (o := .cells #[.slice none 0 0, .int .i32 0] 28 (0, 0)) (by (with_reducible repeat (first | refine blk_drewN ?_ _ | refine blk_drew ?_ | refine blk_alloc ?_ _)); exact BK309.out) hb); have n3_ := Aside0.mk (below_step (by repeat (first | (with_reducible first | exact HB.out | apply below_alloc | apply pw_below_drewN | apply below_drew1 | refine below_set ?_ GE309.out) | exact HB.out)) hb); have n4_ := Aside0.mk (hbox); have n5_ := Aside0.mk ((by rw [hg]; exact (below_size (by repeat (first | (with_reducible first | exact HB.out | apply below_alloc | apply pw_below_drewN | apply below_drew1 | refine below_set ?_ GE309.out) | exact HB.out))) : w.heap.size ≤ gb310)); have n6_ := Aside0.mk ((by rw [hg]; exact (below_size (by repeat (first | (with_reducible first | exact HB.out | apply below_alloc | apply pw_below_drewN | apply below_drew1 | refine below_set ?_ GE309.out) | exact HB.out))) : w.heap.size ≤ gb310)); have n7_ := Aside0.mk ((by rw [hg]; exact Nat.ne_of_lt (blk_lt (g := gb309) (o := .cells #[.slice none 0 0, .int .i32 0] 28 (0, 0)) (by (with_reducible repeat (first | refine blk_drewN ?_ _ | refine blk_drew ?_ | refine blk_alloc ?_ _)); exact BK309.out)) : gb309 ≠ gb310)); have n8_ := Aside0.mk ((by rw [hg]; exact Nat.ne_of_gt (blk_lt (g := gb309) (o := .cells #[.slice none 0 0, .int .i32 0] 28 (0, 0)) (by (with_reducible repeat (first | refine blk_drewN ?_ _ | refine blk_drew ?_ | refine blk_alloc ?_ _)); exact BK309.out)) : gb310 ≠ gb309)); clear HO303; clear HO307; clear BK309; clear HB; have HO303 := n0_; have HO307 := n1_; have BK309 := n2_; have HB := n3_; have BK310 := n4_; have GW310 := n5_; have GE310 := n6_; have NB309_310 := n7_; have NB310_309 := n8_; clear n0_ n1_ n2_ n3_ n4_ n5_ n6_ n7_ n8_; clear hb hbox hg; obtain ⟨Ao17, co17, eo17⟩ := Kd.R_slice HO303.out; subst eo17; have hnb18 := NB309_310.out; have hnc18 := NB310_309.out; have hcz19_0 : w16.cell? ⟨gb309, 0, none⟩ = some (.slice none 0 0) := (blk_cell BK309.out 0).trans rfl; have hcz19_1 : w16.cell? ⟨gb309, 1, none⟩ = some (.int .i32 0) := (blk_cell BK309.out 1).trans rfl; have hfz19_0 := blk_frozen BK309.out 0; have hfz19_1 := blk_frozen BK309.out 1; obtain ⟨Ao20, co20, eo20⟩ := Kd.R_slice HO307.out; subst eo20; have hcz21_0 : w16.cell? ⟨gb310, 0, none⟩ = some (.slice none 0 0) := (blk_cell BK310.out 0).trans rfl; have hcz21_1 : w16.cell? ⟨gb310, 1, none⟩ = some (.int .i32 0) := (blk_cell BK310.out 1).trans rfl; have hfz21_0 := blk_frozen BK310.out 0; have hfz21_1 := blk_frozen BK310.out 1)); go_upto_region 6 with (first | ((fail_if_success (have z_ := USA6_)); go_at_call 12; (with_reducible refine (transposallaw08_Awake.calls k  true _ ?side1 A6.out).mono ?_); (case side1 => exact Glob.below (by repeat (first | (with_reducible first | exact HB.out | apply below_alloc | apply pw_below_drewN | apply below_drew1) | exact HB.out)) HG.out); rintro e w12 ⟨rfl, hb⟩; have USA6_ := Aside0.mk (rfl : (0 : Nat) = 0); have n0_ := Aside0.mk (below_step (by repeat (first | (with_reducible first | exact HB.out | apply below_alloc | apply pw_below_drewN | apply below_drew1) | exact HB.out)) hb); clear HB; have HB := n0_; clear n0_; (try clear hb); (try clear hb2); (try clear hk); (try clear hi)) | ((fail_if_success (have z_ := USA9_)); go_at_call 13; (with_reducible refine (transposallaw08_Make.calls k a0 _ _ l2 t301 t304 _ ?side1 ?side2 A9.out).mono ?_); (case side1 => repeat (first | exact (Kd.C_below HR2.out HB.out) | (with_reducible refine Kd.C_alloc ?_ _) | (with_reducible refine Kd.C_drewN ?_ _) | (with_reducible refine Kd.C_drew ?_))); (case side2 => exact HC2.out); rintro e w13 ⟨v302, rfl, ho0, hb⟩; have USA9_ := Aside0.mk (rfl : (0 : Nat) = 0); have n0_ := Aside0.mk (Kd.R_lower ho0 (below_size (by repeat (first | (with_reducible first | exact HB.out | apply below_alloc | apply pw_below_drewN | apply below_drew1) | exact HB.out)))); have n1_ := Aside0.mk (below_step (by repeat (first | (with_reducible first | exact HB.out | apply below_alloc | apply pw_below_drewN | apply below_drew1) | exact HB.out)) hb); clear HB; have HO303 := n0_; have HB := n1_; clear n0_ n1_; (try clear hb); (try clear hb2); (try clear hk); (try clear hi); (try clear ho0)) | ((fail_if_success (have z_ := USA10_)); go_at_call 13; (with_reducible refine (transposallaw08_Make.calls k a0 _ _ l2 t305 t308 _ ?side1 ?side2 A10.out).mono ?_); (case side1 => repeat (first | exact (Kd.C_below HR2.out HB.out) | (with_reducible refine Kd.C_alloc ?_ _) | (with_reducible refine Kd.C_drewN ?_ _) | (with_reducible refine Kd.C_drew ?_))); (case side2 => exact HC2.out); rintro e w14 ⟨v306, rfl, ho0, hb⟩; have USA10_ := Aside0.mk (rfl : (0 : Nat) = 0); have n0_ := Aside0.mk (Kd.R_elder' (by (with_reducible repeat (first | apply Kd.R_alloc | apply Kd.R_drewN | apply Kd.R_drew)); exact HO303.out) (Kd.R_base ho0) hb); have n1_ := Aside0.mk (Kd.R_lower (Kd.R_new' ho0 (Kd.R_lt (by (with_reducible repeat (first | apply Kd.R_alloc | apply Kd.R_drewN | apply Kd.R_drew)); exact HO303.out))) (below_size (by repeat (first | (with_reducible first | exact HB.out | apply below_alloc | apply pw_below_drewN | apply below_drew1) | exact HB.out)))); have n2_ := Aside0.mk (below_step (by repeat (first | (with_reducible first | exact HB.out | apply below_alloc | apply pw_below_drewN | apply below_drew1) | exact HB.out)) hb); clear HO303; clear HB; have HO303 := n0_; have HO307 := n1_; have HB := n2_; clear n0_ n1_ n2_; (try clear hb); (try clear hb2); (try clear hk); (try clear hi); (try clear ho0)) | ((with_reducible refine gate_dst (N := 11) rfl ?_); refine box_event ?hg (N := 11) ?hd (cs := #[.slice none 0 0, .int .i32 0]) (t := 28) ?hr ?_; (case hd => rfl); (case hg => rfl); (case hr => first | (go_simp; done) | (go_simp; rfl)); intro gb309 hg w15 hbox hb; have n0_ := Aside0.mk (Kd.R_below (by (with_reducible repeat (first | apply Kd.R_alloc | apply Kd.R_drewN | apply Kd.R_drew)); exact HO303.out) hb); have n1_ := Aside0.mk (Kd.R_below (by (with_reducible repeat (first | apply Kd.R_alloc | apply Kd.R_drewN | apply Kd.R_drew)); exact HO307.out) hb); have n2_ := Aside0.mk (below_step (by repeat (first | (with_reducible first | exact HB.out | apply below_alloc | apply pw_below_drewN | apply below_drew1) | exact HB.out)) hb); have n3_ := Aside0.mk (hbox); have n4_ := Aside0.mk ((by rw [hg]; exact (below_size (by repeat (first | (with_reducible first | exact HB.out | apply below_alloc | apply pw_below_drewN | apply below_drew1) | exact HB.out))) : w.heap.size ≤ gb309)); have n5_ := Aside0.mk ((by rw [hg]; exact (below_size (by repeat (first | (with_reducible first | exact HB.out | apply below_alloc | apply pw_below_drewN | apply below_drew1) | exact HB.out))) : w.heap.size ≤ gb309)); clear HO303; clear HO307; clear HB; have HO303 := n0_; have HO307 := n1_; have HB := n2_; have BK309 := n3_; have GW309 := n4_; have GE309 := n5_; clear n0_ n1_ n2_ n3_ n4_ n5_; clear hb hbox hg) | ((with_reducible refine gate_dst (N := 12) rfl ?_); refine box_event ?hg (N := 12) ?hd (cs := #[.slice none 0 0, .int .i32 0]) (t := 28) ?hr ?_; (case hd => rfl); (case hg => rfl); (case hr => first | (go_simp; done) | (go_simp; rfl)); intro gb310 hg w16 hbox hb; have n0_ := Aside0.mk (Kd.R_below (by (with_reducible repeat (first | apply Kd.R_alloc | apply Kd.R_drewN | apply Kd.R_drew)); exact HO303.out) hb); have n1_ := Aside0.mk (Kd.R_below (by (with_reducible repeat (first | apply Kd.R_alloc | apply Kd.R_drewN | apply Kd.R_drew)); exact HO307.out) hb); have n2_ := Aside0.mk (blk_below (g := gb309) (o := .cells #[.slice none 0 0, .int .i32 0] 28 (0, 0)) (by (with_reducible repeat (first | refine blk_drewN ?_ _ | refine blk_drew ?_ | refine blk_alloc ?_ _)); exact BK309.out) hb); have n3_ := Aside0.mk (below_step (by repeat (first | (with_reducible first | exact HB.out | apply below_alloc | apply pw_below_drewN | apply below_drew1 | refine below_set ?_ GE309.out) | exact HB.out)) hb); have n4_ := Aside0.mk (hbox); have n5_ := Aside0.mk ((by rw [hg]; exact (below_size (by repeat (first | (with_reducible first | exact HB.out | apply below_alloc | apply pw_below_drewN | apply below_drew1 | refine below_set ?_ GE309.out) | exact HB.out))) : w.heap.size ≤ gb310)); have n6_ := Aside0.mk ((by rw [hg]; exact (below_size (by repeat (first | (with_reducible first | exact HB.out | apply below_alloc | apply pw_below_drewN | apply below_drew1 | refine below_set ?_ GE309.out) | exact HB.out))) : w.heap.size ≤ gb310)); have n7_ := Aside0.mk ((by rw [hg]; exact Nat.ne_of_lt (blk_lt (g := gb309) (o := .cells #[.slice none 0 0, .int .i32 0] 28 (0, 0)) (by (with_reducible repeat (first | refine blk_drewN ?_ _ | refine blk_drew ?_ | refine blk_alloc ?_ _)); exact BK309.out)) : gb309 ≠ gb310)); have n8_ := Aside0.mk ((by rw [hg]; exact Nat.ne_of_gt (blk_lt (g := gb309) (o := .cells #[.slice none 0 0, .int .i32 0] 28 (0, 0)) (by (with_reducible repeat (first | refine blk_drewN ?_ _ | refine blk_drew ?_ | refine blk_alloc ?_ _)); exact BK309.out)) : gb310 ≠ gb309)); clear HO303; clear HO307; clear BK309; clear HB; have HO303 := n0_; have HO307 := n1_; have BK309 := n2_; have HB := n3_; have BK310 := n4_; have GW310 := n5_; have GE310 := n6_; have NB309_310 := n7_; have NB310_309 := n8_; clear n0_ n1_ n2_ n3_ n4_ n5_ n6_ n7_ n8_; clear hb hbox hg; obtain ⟨Ao17, co17, eo17⟩ := Kd.R_slice HO303.out; subst eo17; have hnb18 := NB309_310.out; have hnc18 := NB310_309.out; have hcz19_0 : w16.cell? ⟨gb309, 0, none⟩ = some (.slice none 0 0) := (blk_cell BK309.out 0).trans rfl; have hcz19_1 : w16.cell? ⟨gb309, 1, none⟩ = some (.int .i32 0) := (blk_cell BK309.out 1).trans rfl; have hfz19_0 := blk_frozen BK309.out 0; have hfz19_1 := blk_frozen BK309.out 1; obtain ⟨Ao20, co20, eo20⟩ := Kd.R_slice HO307.out; subst eo20; have hcz21_0 : w16.cell? ⟨gb310, 0, none⟩ = some (.slice none 0 0) := (blk_cell BK310.out 0).trans rfl; have hcz21_1 : w16.cell? ⟨gb310, 1, none⟩ = some (.int .i32 0) := (blk_cell BK310.out 1).trans rfl; have hfz21_0 := blk_frozen BK310.out 0; have hfz21_1 := blk_frozen BK310.out 1)))
   (try simp only [Act.put, List.setIfInBounds_toArray, List.set_cons_zero, List.set_cons_succ])
   go_cut [13] (fun v13 wc => ∃ (kq : Nat) (x13_10 : Bool), v13 = .bool x13_10 ∧ Aside0 (transposallaw08_CalendarSames.j0 kq x13_10 t301 t304 t305 t308 = some r) ∧ Aside0 (kq ≤ k) ∧ Aside0 (Kd.R (Kd.int .i32) 26 wc w.heap.size (fun k_ => some k_ ≠ ((.slice Ao20 t305.length co20) : Value).ownBlock) (.slice Ao17 t301.length co17) t301) ∧ Aside0 (Kd.R (Kd.int .i32) 26 wc w.heap.size (fun k_ => some k_ ≠ ((.slice Ao17 t301.length co17) : Value).ownBlock) (.slice Ao20 t305.length co20) t305) ∧ Aside0 (wc.heap[gb309]? = some (.cells #[(.slice Ao17 t301.length co17), .int .i32 t304] 28 (0, 0))) ∧ Aside0 (wc.heap[gb310]? = some (.cells #[(.slice Ao20 t305.length co20), .int .i32 t308] 28 (0, 0))) ∧ Aside0 (Below w.heap.size w wc))
   case first =>
    have H := HC11.out
    clear HC11
    by_cases c22 : (t301.length : Int) = (t305.length : Int)
    ·rw [if_pos c22] at H
     have c22b0 : ((t301.length : Int) == (t305.length : Int)) = true := beq_iff_eq.mpr c22
     have c22b1 : ((t301.length : Int) != (t305.length : Int)) = false := bne_eq_false_iff_eq.mpr c22
     have c22b2 : (t301.length == t305.length) = true := by first | simpa using c22 | (simp at c22 ⊢; omega)
     clear c22
     (first | rw [c22b0] | (simp only [i64_w, i32_w]; rw [c22b0]) | skip)
     have H' := Aside0.mk H
     clear H
     have hnb23 := NB309_310.out
     have hnc23 := NB310_309.out
     have hcz24_0 : w16.cell? ⟨gb309, 0, none⟩ = some (.slice none 0 0) := (blk_cell BK309.out 0).trans rfl
     have hcz24_1 : w16.cell? ⟨gb309, 1, none⟩ = some (.int .i32 0) := (blk_cell BK309.out 1).trans rfl
     have hfz24_0 := blk_frozen BK309.out 0
     have hfz24_1 := blk_frozen BK309.out 1
     have hcz25_0 : w16.cell? ⟨gb310, 0, none⟩ = some (.slice none 0 0) := (blk_cell BK310.out 0).trans rfl
     have hcz25_1 : w16.cell? ⟨gb310, 1, none⟩ = some (.int .i32 0) := (blk_cell BK310.out 1).trans rfl
     have hfz25_0 := blk_frozen BK310.out 0
     have hfz25_1 := blk_frozen BK310.out 1
     go_wp2
     repeat (go_quiet (fail); try go_wp2)
     go_meet
     case rel => exact ⟨_, ((t304 == t308)), (by first | rfl | (simp; done) | (simp [*]; done)), H', ⟨by first | omega | exact Nat.le_refl _⟩, ⟨by (with_reducible repeat (first | apply Kd.R_alloc | apply Kd.R_drewN | apply Kd.R_drew)); exact Kd.R_mono (Kd.R_far (p := ⟨gb310, 1, none⟩) (Kd.R_far (p := ⟨gb310, 0, none⟩) (Kd.R_far (p := ⟨gb309, 1, none⟩) (Kd.R_far (p := ⟨gb309, 0, none⟩) (Kd.R_types (Kd.R_types HO303.out BK309.out (by decide)) BK310.out (by decide)) (fun _ hk => hk.1.2) (.slice Ao17 t301.length co17)) (fun _ hk => hk.1.2) (.int .i32 t304)) (fun _ hk => hk.2) (.slice Ao20 t305.length co20)) (fun _ hk => hk.2) (.int .i32 t308)) (fun _ hk => hk.1.1.2)⟩, ⟨by (with_reducible repeat (first | apply Kd.R_alloc | apply Kd.R_drewN | apply Kd.R_drew)); exact Kd.R_mono (Kd.R_far (p := ⟨gb310, 1, none⟩) (Kd.R_far (p := ⟨gb310, 0, none⟩) (Kd.R_far (p := ⟨gb309, 1, none⟩) (Kd.R_far (p := ⟨gb309, 0, none⟩) (Kd.R_types (Kd.R_types HO307.out BK309.out (by decide)) BK310.out (by decide)) (fun _ hk => hk.1.2) (.slice Ao17 t301.length co17)) (fun _ hk => hk.1.2) (.int .i32 t304)) (fun _ hk => hk.2) (.slice Ao20 t305.length co20)) (fun _ hk => hk.2) (.int .i32 t308)) (fun _ hk => hk.1.1.2)⟩, ⟨by (with_reducible repeat (first | refine blk_drewN ?_ _ | refine blk_drew ?_ | refine blk_alloc ?_ _)); refine blk_far ?_ NB309_310.out _; (with_reducible repeat (first | refine blk_drewN ?_ _ | refine blk_drew ?_ | refine blk_alloc ?_ _)); refine blk_far ?_ NB309_310.out _; (with_reducible repeat (first | refine blk_drewN ?_ _ | refine blk_drew ?_ | refine blk_alloc ?_ _)); refine blk_put (cs := #[.slice Ao17 t301.length co17, .int .i32 0]) ?_ 1 _ rfl; (with_reducible repeat (first | refine blk_drewN ?_ _ | refine blk_drew ?_ | refine blk_alloc ?_ _)); refine blk_put (cs := #[.slice none 0 0, .int .i32 0]) ?_ 0 _ rfl; (with_reducible repeat (first | refine blk_drewN ?_ _ | refine blk_drew ?_ | refine blk_alloc ?_ _)); exact BK309.out⟩, ⟨by (with_reducible repeat (first | refine blk_drewN ?_ _ | refine blk_drew ?_ | refine blk_alloc ?_ _)); refine blk_put (cs := #[.slice Ao20 t305.length co20, .int .i32 0]) ?_ 1 _ rfl; (with_reducible repeat (first | refine blk_drewN ?_ _ | refine blk_drew ?_ | refine blk_alloc ?_ _)); refine blk_put (cs := #[.slice none 0 0, .int .i32 0]) ?_ 0 _ rfl; (with_reducible repeat (first | refine blk_drewN ?_ _ | refine blk_drew ?_ | refine blk_alloc ?_ _)); refine blk_far ?_ NB310_309.out _; (with_reducible repeat (first | refine blk_drewN ?_ _ | refine blk_drew ?_ | refine blk_alloc ?_ _)); refine blk_far ?_ NB310_309.out _; (with_reducible repeat (first | refine blk_drewN ?_ _ | refine blk_drew ?_ | refine blk_alloc ?_ _)); exact BK310.out⟩, ⟨by repeat (first | (with_reducible first | exact HB.out | apply below_alloc | apply pw_below_drewN | apply below_drew1 | refine below_set ?_ GE309.out | refine below_set ?_ GE310.out) | exact HB.out)⟩⟩
    ·rw [if_neg c22] at H
     have c22b0 : ((t301.length : Int) == (t305.length : Int)) = false := beq_eq_false_iff_ne.mpr c22
     have c22b1 : ((t301.length : Int) != (t305.length : Int)) = true := bne_iff_ne.mpr c22
     have c22b2 : (t301.length == t305.length) = false := by first | simpa using c22 | (simp at c22 ⊢; omega)
     (first | rw [c22b0] | (simp only [i64_w, i32_w]; rw [c22b0]) | skip)
     have H' := Aside0.mk H
     clear H
     have hnb26 := NB309_310.out
     have hnc26 := NB310_309.out
     have hcz27_0 : w16.cell? ⟨gb309, 0, none⟩ = some (.slice none 0 0) := (blk_cell BK309.out 0).trans rfl
     have hcz27_1 : w16.cell? ⟨gb309, 1, none⟩ = some (.int .i32 0) := (blk_cell BK309.out 1).trans rfl
     have hfz27_0 := blk_frozen BK309.out 0
     have hfz27_1 := blk_frozen BK309.out 1
     have hcz28_0 : w16.cell? ⟨gb310, 0, none⟩ = some (.slice none 0 0) := (blk_cell BK310.out 0).trans rfl
     have hcz28_1 : w16.cell? ⟨gb310, 1, none⟩ = some (.int .i32 0) := (blk_cell BK310.out 1).trans rfl
     have hfz28_0 := blk_frozen BK310.out 0
     have hfz28_1 := blk_frozen BK310.out 1
     go_wp2
     repeat (go_quiet (fail); try go_wp2)
     go_meet
     case rel => exact ⟨_, (false), (by first | rfl | (simp; done) | (simp [*]; done)), H', ⟨by first | omega | exact Nat.le_refl _⟩, ⟨by (with_reducible repeat (first | apply Kd.R_alloc | apply Kd.R_drewN | apply Kd.R_drew)); exact Kd.R_mono (Kd.R_far (p := ⟨gb310, 1, none⟩) (Kd.R_far (p := ⟨gb310, 0, none⟩) (Kd.R_far (p := ⟨gb309, 1, none⟩) (Kd.R_far (p := ⟨gb309, 0, none⟩) (Kd.R_types (Kd.R_types HO303.out BK309.out (by decide)) BK310.out (by decide)) (fun _ hk => hk.1.2) (.slice Ao17 t301.length co17)) (fun _ hk => hk.1.2) (.int .i32 t304)) (fun _ hk => hk.2) (.slice Ao20 t305.length co20)) (fun _ hk => hk.2) (.int .i32 t308)) (fun _ hk => hk.1.1.2)⟩, ⟨by (with_reducible repeat (first | apply Kd.R_alloc | apply Kd.R_drewN | apply Kd.R_drew)); exact Kd.R_mono (Kd.R_far (p := ⟨gb310, 1, none⟩) (Kd.R_far (p := ⟨gb310, 0, none⟩) (Kd.R_far (p := ⟨gb309, 1, none⟩) (Kd.R_far (p := ⟨gb309, 0, none⟩) (Kd.R_types (Kd.R_types HO307.out BK309.out (by decide)) BK310.out (by decide)) (fun _ hk => hk.1.2) (.slice Ao17 t301.length co17)) (fun _ hk => hk.1.2) (.int .i32 t304)) (fun _ hk => hk.2) (.slice Ao20 t305.length co20)) (fun _ hk => hk.2) (.int .i32 t308)) (fun _ hk => hk.1.1.2)⟩, ⟨by (with_reducible repeat (first | refine blk_drewN ?_ _ | refine blk_drew ?_ | refine blk_alloc ?_ _)); refine blk_far ?_ NB309_310.out _; (with_reducible repeat (first | refine blk_drewN ?_ _ | refine blk_drew ?_ | refine blk_alloc ?_ _)); refine blk_far ?_ NB309_310.out _; (with_reducible repeat (first | refine blk_drewN ?_ _ | refine blk_drew ?_ | refine blk_alloc ?_ _)); refine blk_put (cs := #[.slice Ao17 t301.length co17, .int .i32 0]) ?_ 1 _ rfl; (with_reducible repeat (first | refine blk_drewN ?_ _ | refine blk_drew ?_ | refine blk_alloc ?_ _)); refine blk_put (cs := #[.slice none 0 0, .int .i32 0]) ?_ 0 _ rfl; (with_reducible repeat (first | refine blk_drewN ?_ _ | refine blk_drew ?_ | refine blk_alloc ?_ _)); exact BK309.out⟩, ⟨by (with_reducible repeat (first | refine blk_drewN ?_ _ | refine blk_drew ?_ | refine blk_alloc ?_ _)); refine blk_put (cs := #[.slice Ao20 t305.length co20, .int .i32 0]) ?_ 1 _ rfl; (with_reducible repeat (first | refine blk_drewN ?_ _ | refine blk_drew ?_ | refine blk_alloc ?_ _)); refine blk_put (cs := #[.slice none 0 0, .int .i32 0]) ?_ 0 _ rfl; (with_reducible repeat (first | refine blk_drewN ?_ _ | refine blk_drew ?_ | refine blk_alloc ?_ _)); refine blk_far ?_ NB310_309.out _; (with_reducible repeat (first | refine blk_drewN ?_ _ | refine blk_drew ?_ | refine blk_alloc ?_ _)); refine blk_far ?_ NB310_309.out _; (with_reducible repeat (first | refine blk_drewN ?_ _ | refine blk_drew ?_ | refine blk_alloc ?_ _)); exact BK310.out⟩, ⟨by repeat (first | (with_reducible first | exact HB.out | apply below_alloc | apply pw_below_drewN | apply below_drew1 | refine below_set ?_ GE309.out | refine below_set ?_ GE310.out) | exact HB.out)⟩⟩
   case rest =>
    clear HC11
    try clear c1
    try clear c2
    try clear p2
    try clear c3
    try clear c7
    try clear c8
    try clear c18
    try clear c22
    try clear c22b0
    try clear c22b1
    try clear c22b2
    try clear c23
    try clear c26
    try clear hcz19_0
    try clear hcz19_1
    try clear hcz21_0
    try clear hcz21_1
    try clear hcz24_0
    try clear hcz24_1
    try clear hcz25_0
    try clear hcz25_1
    try clear hcz27_0
    try clear hcz27_1
    try clear hcz28_0
    try clear hcz28_1
    try clear hfz19_0
    try clear hfz19_1
    try clear hfz21_0
    try clear hfz21_1
    try clear hfz24_0
    try clear hfz24_1
    try clear hfz25_0
    try clear hfz25_1
    try clear hfz27_0
    try clear hfz27_1
    try clear hfz28_0
    try clear hfz28_1
    obtain ⟨kq, x13_10, rfl, HA, HJ10, HO_310000, HO_311000, BK309, BK310, HB⟩ := hcut
    cases kq with
    | zero => exact absurd HA.out (by simp [transposallaw08_CalendarSames.j0])
    | succ kj10 =>
     have H := HA.out
     clear HA
     simp only [transposallaw08_CalendarSames.j0] at H
     obtain ⟨ji29, hji29⟩ : ∃ j_ : Int, (mn (t301.length : Int) (t305.length : Int)) = j_ := ⟨_, rfl⟩
     replace H : (transposallaw08_CalendarSames.l0 kj10 x13_10 ji29 0 t301 t304 t305 t308) = some r := by first | (rw [hji29] at H; exact H) | (simp only [hji29] at H ⊢; exact H)
     have hji29_ : (if (t305.length : Int) < (t301.length : Int) then (t305.length : Int) else (t301.length : Int)) = ji29 := hji29
     have hji29n_ : (if t305.length < t301.length then (t305.length : Int) else (t301.length : Int)) = ji29 := by have z_ := hji29_; simpa only [Int.ofNat_lt] using z_
     have H' := Aside0.mk H
     clear H
     have hnb30 := NB309_310.out
     have hnc30 := NB310_309.out
     have hcz31_0 : wc.cell? ⟨gb309, 0, none⟩ = some (.slice Ao17 t301.length co17) := (blk_cell BK309.out 0).trans rfl
     have hcz31_1 : wc.cell? ⟨gb309, 1, none⟩ = some (.int .i32 t304) := (blk_cell BK309.out 1).trans rfl
     have hfz31_0 := blk_frozen BK309.out 0
     have hfz31_1 := blk_frozen BK309.out 1
     have hcz32_0 : wc.cell? ⟨gb310, 0, none⟩ = some (.slice Ao20 t305.length co20) := (blk_cell BK310.out 0).trans rfl
     have hcz32_1 : wc.cell? ⟨gb310, 1, none⟩ = some (.int .i32 t308) := (blk_cell BK310.out 1).trans rfl
     have hfz32_0 := blk_frozen BK310.out 0
     have hfz32_1 := blk_frozen BK310.out 1
     go_wp2
     repeat (go_quiet (fail); try go_wp2)
     go_loopg [13, 47] kj10 (fun kq v13 v47 w' => ∃ (x13_2 : Bool) (x47_2 : Int), v13 = .bool x13_2 ∧ v47 = .int .i64 x47_2 ∧ Aside0 (transposallaw08_CalendarSames.l0 kq x13_2 ji29 x47_2 t301 t304 t305 t308 = some r) ∧ Aside0 (kq ≤ kj10) ∧ Aside0 (Kd.R (Kd.int .i32) 26 w' w.heap.size (fun k_ => some k_ ≠ ((.slice Ao20 t305.length co20) : Value).ownBlock) (.slice Ao17 t301.length co17) t301) ∧ Aside0 (Kd.R (Kd.int .i32) 26 w' w.heap.size (fun k_ => some k_ ≠ ((.slice Ao17 t301.length co17) : Value).ownBlock) (.slice Ao20 t305.length co20) t305) ∧ Aside0 (w'.heap[gb309]? = some (.cells #[(.slice Ao17 t301.length co17), .int .i32 t304] 28 (0, 0))) ∧ Aside0 (w'.heap[gb310]? = some (.cells #[(.slice Ao20 t305.length co20), .int .i32 t308] 28 (0, 0))) ∧ Aside0 (Below w.heap.size w w'))
     case atStart => exact ⟨(x13_10), (0), (by first | rfl | (simp; done) | (simp [*]; done)), (by first | rfl | (simp; done) | (simp [*]; done)), H', ⟨Nat.le_refl _⟩, ⟨by (with_reducible repeat (first | apply Kd.R_alloc | apply Kd.R_drewN | apply Kd.R_drew)); exact HO_310000.out⟩, ⟨by (with_reducible repeat (first | apply Kd.R_alloc | apply Kd.R_drewN | apply Kd.R_drew)); exact HO_311000.out⟩, ⟨by (with_reducible repeat (first | refine blk_drewN ?_ _ | refine blk_drew ?_ | refine blk_alloc ?_ _)); exact BK309.out⟩, ⟨by (with_reducible repeat (first | refine blk_drewN ?_ _ | refine blk_drew ?_ | refine blk_alloc ?_ _)); exact BK310.out⟩, ⟨by repeat (first | (with_reducible first | exact HB.out | apply below_alloc | apply pw_below_drewN | apply below_drew1 | refine below_set ?_ GE309.out | refine below_set ?_ GE310.out) | exact HB.out)⟩⟩
     case round =>
      clear H'
      try clear c1
      try clear c2
      try clear p2
      try clear c3
      try clear c7
      try clear c8
      try clear c18
      try clear c22
      try clear c22b0
      try clear c22b1
      try clear c22b2
      try clear c23
      try clear c26
      try clear c30
      try clear hcz19_0
      try clear hcz19_1
      try clear hcz21_0
      try clear hcz21_1
      try clear hcz24_0
      try clear hcz24_1
      try clear hcz25_0
      try clear hcz25_1
      try clear hcz27_0
      try clear hcz27_1
      try clear hcz28_0
      try clear hcz28_1
      try clear hcz31_0
      try clear hcz31_1
      try clear hcz32_0
      try clear hcz32_1
      try clear hfz19_0
      try clear hfz19_1
      try clear hfz21_0
      try clear hfz21_1
      try clear hfz24_0
      try clear hfz24_1
      try clear hfz25_0
      try clear hfz25_1
      try clear hfz27_0
      try clear hfz27_1
      try clear hfz28_0
      try clear hfz28_1
      try clear hfz31_0
      try clear hfz31_1
      try clear hfz32_0
      try clear hfz32_1
      try clear p2
      obtain ⟨x13_2, x47_2, rfl, rfl, HA, HK2, HO_310000, HO_311000, BK309, BK310, HB⟩ := hrel
      cases gk with
      | zero => exact absurd HA.out (by simp [transposallaw08_CalendarSames.l0])
      | succ k2 =>
       have H := HA.out
       clear HA
       simp only [transposallaw08_CalendarSames.l0] at H
       by_cases c33 : x47_2 < ji29
       ·rw [if_pos c33] at H
        have c33b0 : decide (x47_2 < ji29) = true := decide_eq_true c33
        clear c33
        by_cases c34 : x13_2 = true
        ·subst c34
         have H1 : (if 0 ≤ x47_2 then (if x47_2 < (t301.length : Int) then (if x47_2 < (t305.length : Int) then (transposallaw08_CalendarSames.l0 k2 ((rd t301 x47_2) == (rd t305 x47_2)) ji29 (wrap64 (x47_2 + 1)) t301 t304 t305 t308) else (none)) else (none)) else (none)) = some r := by rw [if_pos rfl] at H; exact H
         clear H
         have H := H1
         clear H1
         by_cases c35 : 0 ≤ x47_2
         ·rw [if_pos c35] at H
          have c35b0 : decide (0 ≤ x47_2) = true := decide_eq_true c35
          clear c35
          by_cases c36 : x47_2 < (t301.length : Int)
          ·rw [if_pos c36] at H
           have c36b0 : decide (x47_2 < (t301.length : Int)) = true := decide_eq_true c36
           clear c36
           by_cases c37 : x47_2 < (t305.length : Int)
           ·rw [if_pos c37] at H
            have c37b0 : decide (x47_2 < (t305.length : Int)) = true := decide_eq_true c37
            clear c37
            have H' := Aside0.mk H
            clear H
            have hnb38 := NB309_310.out
            have hnc38 := NB310_309.out
            have hcz39_0 : wr.cell? ⟨gb309, 0, none⟩ = some (.slice Ao17 t301.length co17) := (blk_cell BK309.out 0).trans rfl
            have hcz39_1 : wr.cell? ⟨gb309, 1, none⟩ = some (.int .i32 t304) := (blk_cell BK309.out 1).trans rfl
            have hfz39_0 := blk_frozen BK309.out 0
            have hfz39_1 := blk_frozen BK309.out 1
            have p311 : 0 ≤ (x47_2 : Int) := of_decide_eq_true (by first | (with_reducible assumption) | assumption)
            have q311 : x47_2 < (t301.length : Int) := of_decide_eq_true (by first | (with_reducible assumption) | assumption)
            obtain ⟨ad311, e311, hx311_0⟩ := Kd.at_int (Kd.R_reads' HO_310000.out).2.2 x47_2 p311 q311
            cases e311
            replace p311 := eq_true p311
            replace q311 := eq_true q311
            have hcz40_0 : wr.cell? ⟨gb310, 0, none⟩ = some (.slice Ao20 t305.length co20) := (blk_cell BK310.out 0).trans rfl
            have hcz40_1 : wr.cell? ⟨gb310, 1, none⟩ = some (.int .i32 t308) := (blk_cell BK310.out 1).trans rfl
            have hfz40_0 := blk_frozen BK310.out 0
            have hfz40_1 := blk_frozen BK310.out 1
            have p312 : 0 ≤ (x47_2 : Int) := of_decide_eq_true (by first | (with_reducible assumption) | assumption)
            have q312 : x47_2 < (t305.length : Int) := of_decide_eq_true (by first | (with_reducible assumption) | assumption)
            obtain ⟨ad312, e312, hx312_0⟩ := Kd.at_int (Kd.R_reads' HO_311000.out).2.2 x47_2 p312 q312
            cases e312
            replace p312 := eq_true p312
            replace q312 := eq_true q312
            go_wp2
            repeat (go_quiet (fail); try go_wp2)
            go_roundg k2
            case measure => have := HJ10.out; have := HK2.out; omega
            case rel => exact ⟨(((rd t301 x47_2) == (rd t305 x47_2))), (wrap64 (x47_2 + 1)), (by first | rfl | (simp; done) | (simp [*]; done)), (by first | rfl | (simp; done) | (simp [*]; done)), H', ⟨by have := HJ10.out; have := HK2.out; omega⟩, ⟨by (with_reducible repeat (first | apply Kd.R_alloc | apply Kd.R_drewN | apply Kd.R_drew)); exact HO_310000.out⟩, ⟨by (with_reducible repeat (first | apply Kd.R_alloc | apply Kd.R_drewN | apply Kd.R_drew)); exact HO_311000.out⟩, ⟨by (with_reducible repeat (first | refine blk_drewN ?_ _ | refine blk_drew ?_ | refine blk_alloc ?_ _)); exact BK309.out⟩, ⟨by (with_reducible repeat (first | refine blk_drewN ?_ _ | refine blk_drew ?_ | refine blk_alloc ?_ _)); exact BK310.out⟩, ⟨by repeat (first | (with_reducible first | exact HB.out | apply below_alloc | apply pw_below_drewN | apply below_drew1 | refine below_set ?_ GE309.out | refine below_set ?_ GE310.out) | exact HB.out)⟩⟩
           ·rw [if_neg c37] at H
            exact absurd H (by simp)
          ·rw [if_neg c36] at H
           exact absurd H (by simp)
         ·rw [if_neg c35] at H
          exact absurd H (by simp)
        ·replace c34 := Bool.eq_false_iff.mpr c34
         subst c34
         have H1 : (transposallaw08_CalendarSames.l0 k2 false ji29 (wrap64 (x47_2 + 1)) t301 t304 t305 t308) = some r := by rw [if_neg (show ¬ (false = true) by decide)] at H; exact H
         clear H
         have H := H1
         clear H1
         have H' := Aside0.mk H
         clear H
         go_wp2
         repeat (go_quiet (fail); try go_wp2)
         go_roundg k2
         case measure => have := HJ10.out; have := HK2.out; omega
         case rel => exact ⟨(false), (wrap64 (x47_2 + 1)), (by first | rfl | (simp; done) | (simp [*]; done)), (by first | rfl | (simp; done) | (simp [*]; done)), H', ⟨by have := HJ10.out; have := HK2.out; omega⟩, ⟨by (with_reducible repeat (first | apply Kd.R_alloc | apply Kd.R_drewN | apply Kd.R_drew)); exact HO_310000.out⟩, ⟨by (with_reducible repeat (first | apply Kd.R_alloc | apply Kd.R_drewN | apply Kd.R_drew)); exact HO_311000.out⟩, ⟨by (with_reducible repeat (first | refine blk_drewN ?_ _ | refine blk_drew ?_ | refine blk_alloc ?_ _)); exact BK309.out⟩, ⟨by (with_reducible repeat (first | refine blk_drewN ?_ _ | refine blk_drew ?_ | refine blk_alloc ?_ _)); exact BK310.out⟩, ⟨by repeat (first | (with_reducible first | exact HB.out | apply below_alloc | apply pw_below_drewN | apply below_drew1 | refine below_set ?_ GE309.out | refine below_set ?_ GE310.out) | exact HB.out)⟩⟩
       ·rw [if_neg c33] at H
        have c33b0 : decide (x47_2 < ji29) = false := decide_eq_false c33
        clear c33
        replace H := Option.bind_eq_some_iff.mp H
        obtain ⟨t313, A410, H⟩ := H
        replace H : (some (t313 == x13_2)) = some r := H
        have A41 := Aside0.mk A410
        clear A410
        obtain rfl := Option.some.inj H
        have hnb42 := NB309_310.out
        have hnc42 := NB310_309.out
        have hcz43_0 : wr.cell? ⟨gb309, 0, none⟩ = some (.slice Ao17 t301.length co17) := (blk_cell BK309.out 0).trans rfl
        have hcz43_1 : wr.cell? ⟨gb309, 1, none⟩ = some (.int .i32 t304) := (blk_cell BK309.out 1).trans rfl
        have hfz43_0 := blk_frozen BK309.out 0
        have hfz43_1 := blk_frozen BK309.out 1
        have hcz44_0 : wr.cell? ⟨gb310, 0, none⟩ = some (.slice Ao20 t305.length co20) := (blk_cell BK310.out 0).trans rfl
        have hcz44_1 : wr.cell? ⟨gb310, 1, none⟩ = some (.int .i32 t308) := (blk_cell BK310.out 1).trans rfl
        have hfz44_0 := blk_frozen BK310.out 0
        have hfz44_1 := blk_frozen BK310.out 1
        go_wp2_with (first | (go_at_call 14; (with_reducible refine (calendar_Same.calls k2 _ _ t301 t304 _ _ t305 t308 t313 _ ?side1 ?side2 ?side3 ?side4 A41.out).mono ?_); (case side1 => repeat (first | exact (Kd.R_reads' HO_310000.out).2.2 | (with_reducible refine Kd.C_alloc ?_ _) | (with_reducible refine Kd.C_drewN ?_ _) | (with_reducible refine Kd.C_drew ?_))); (case side2 => exact (Kd.R_reads' HO_310000.out).2.1); (case side3 => repeat (first | exact (Kd.R_reads' HO_311000.out).2.2 | (with_reducible refine Kd.C_alloc ?_ _) | (with_reducible refine Kd.C_drewN ?_ _) | (with_reducible refine Kd.C_drew ?_))); (case side4 => exact (Kd.R_reads' HO_311000.out).2.1); rintro e w45 ⟨rfl, hb⟩; have n0_ := Aside0.mk (Kd.R_below (by (with_reducible repeat (first | apply Kd.R_alloc | apply Kd.R_drewN | apply Kd.R_drew)); exact HO_310000.out) hb); have n1_ := Aside0.mk (Kd.R_below (by (with_reducible repeat (first | apply Kd.R_alloc | apply Kd.R_drewN | apply Kd.R_drew)); exact HO_311000.out) hb); have n2_ := Aside0.mk (blk_below (g := gb309) (o := .cells #[.slice Ao17 t301.length co17, .int .i32 t304] 28 (0, 0)) (by (with_reducible repeat (first | refine blk_drewN ?_ _ | refine blk_drew ?_ | refine blk_alloc ?_ _)); exact BK309.out) hb); have n3_ := Aside0.mk (blk_below (g := gb310) (o := .cells #[.slice Ao20 t305.length co20, .int .i32 t308] 28 (0, 0)) (by (with_reducible repeat (first | refine blk_drewN ?_ _ | refine blk_drew ?_ | refine blk_alloc ?_ _)); exact BK310.out) hb); have n4_ := Aside0.mk (below_step (by repeat (first | (with_reducible first | exact HB.out | apply below_alloc | apply pw_below_drewN | apply below_drew1 | refine below_set ?_ GE309.out | refine below_set ?_ GE310.out) | exact HB.out)) hb); clear HO_310000; clear HO_311000; clear BK309; clear BK310; clear HB; have HO_310000 := n0_; have HO_311000 := n1_; have BK309 := n2_; have BK310 := n3_; have HB := n4_; clear n0_ n1_ n2_ n3_ n4_; (try clear hb); (try clear hb2); (try clear hk); (try clear hi)))
        repeat (go_quiet (first | ((fail_if_success (have z_ := USA41_)); go_at_call 14; (with_reducible refine (calendar_Same.calls k2 _ _ t301 t304 _ _ t305 t308 t313 _ ?side1 ?side2 ?side3 ?side4 A41.out).mono ?_); (case side1 => repeat (first | exact (Kd.R_reads' HO_310000.out).2.2 | (with_reducible refine Kd.C_alloc ?_ _) | (with_reducible refine Kd.C_drewN ?_ _) | (with_reducible refine Kd.C_drew ?_))); (case side2 => exact (Kd.R_reads' HO_310000.out).2.1); (case side3 => repeat (first | exact (Kd.R_reads' HO_311000.out).2.2 | (with_reducible refine Kd.C_alloc ?_ _) | (with_reducible refine Kd.C_drewN ?_ _) | (with_reducible refine Kd.C_drew ?_))); (case side4 => exact (Kd.R_reads' HO_311000.out).2.1); rintro e w45 ⟨rfl, hb⟩; have USA41_ := Aside0.mk (rfl : (0 : Nat) = 0); have n0_ := Aside0.mk (Kd.R_below (by (with_reducible repeat (first | apply Kd.R_alloc | apply Kd.R_drewN | apply Kd.R_drew)); exact HO_310000.out) hb); have n1_ := Aside0.mk (Kd.R_below (by (with_reducible repeat (first | apply Kd.R_alloc | apply Kd.R_drewN | apply Kd.R_drew)); exact HO_311000.out) hb); have n2_ := Aside0.mk (blk_below (g := gb309) (o := .cells #[.slice Ao17 t301.length co17, .int .i32 t304] 28 (0, 0)) (by (with_reducible repeat (first | refine blk_drewN ?_ _ | refine blk_drew ?_ | refine blk_alloc ?_ _)); exact BK309.out) hb); have n3_ := Aside0.mk (blk_below (g := gb310) (o := .cells #[.slice Ao20 t305.length co20, .int .i32 t308] 28 (0, 0)) (by (with_reducible repeat (first | refine blk_drewN ?_ _ | refine blk_drew ?_ | refine blk_alloc ?_ _)); exact BK310.out) hb); have n4_ := Aside0.mk (below_step (by repeat (first | (with_reducible first | exact HB.out | apply below_alloc | apply pw_below_drewN | apply below_drew1 | refine below_set ?_ GE309.out | refine below_set ?_ GE310.out) | exact HB.out)) hb); clear HO_310000; clear HO_311000; clear BK309; clear BK310; clear HB; have HO_310000 := n0_; have HO_311000 := n1_; have BK309 := n2_; have BK310 := n3_; have HB := n4_; clear n0_ n1_ n2_ n3_ n4_; (try clear hb); (try clear hb2); (try clear hk); (try clear hi))); try go_wp2_with (first | ((fail_if_success (have z_ := USA41_)); go_at_call 14; (with_reducible refine (calendar_Same.calls k2 _ _ t301 t304 _ _ t305 t308 t313 _ ?side1 ?side2 ?side3 ?side4 A41.out).mono ?_); (case side1 => repeat (first | exact (Kd.R_reads' HO_310000.out).2.2 | (with_reducible refine Kd.C_alloc ?_ _) | (with_reducible refine Kd.C_drewN ?_ _) | (with_reducible refine Kd.C_drew ?_))); (case side2 => exact (Kd.R_reads' HO_310000.out).2.1); (case side3 => repeat (first | exact (Kd.R_reads' HO_311000.out).2.2 | (with_reducible refine Kd.C_alloc ?_ _) | (with_reducible refine Kd.C_drewN ?_ _) | (with_reducible refine Kd.C_drew ?_))); (case side4 => exact (Kd.R_reads' HO_311000.out).2.1); rintro e w45 ⟨rfl, hb⟩; have USA41_ := Aside0.mk (rfl : (0 : Nat) = 0); have n0_ := Aside0.mk (Kd.R_below (by (with_reducible repeat (first | apply Kd.R_alloc | apply Kd.R_drewN | apply Kd.R_drew)); exact HO_310000.out) hb); have n1_ := Aside0.mk (Kd.R_below (by (with_reducible repeat (first | apply Kd.R_alloc | apply Kd.R_drewN | apply Kd.R_drew)); exact HO_311000.out) hb); have n2_ := Aside0.mk (blk_below (g := gb309) (o := .cells #[.slice Ao17 t301.length co17, .int .i32 t304] 28 (0, 0)) (by (with_reducible repeat (first | refine blk_drewN ?_ _ | refine blk_drew ?_ | refine blk_alloc ?_ _)); exact BK309.out) hb); have n3_ := Aside0.mk (blk_below (g := gb310) (o := .cells #[.slice Ao20 t305.length co20, .int .i32 t308] 28 (0, 0)) (by (with_reducible repeat (first | refine blk_drewN ?_ _ | refine blk_drew ?_ | refine blk_alloc ?_ _)); exact BK310.out) hb); have n4_ := Aside0.mk (below_step (by repeat (first | (with_reducible first | exact HB.out | apply below_alloc | apply pw_below_drewN | apply below_drew1 | refine below_set ?_ GE309.out | refine below_set ?_ GE310.out) | exact HB.out)) hb); clear HO_310000; clear HO_311000; clear BK309; clear BK310; clear HB; have HO_310000 := n0_; have HO_311000 := n1_; have BK309 := n2_; have BK310 := n3_; have HB := n4_; clear n0_ n1_ n2_ n3_ n4_; (try clear hb); (try clear hb2); (try clear hk); (try clear hi))))
        go_ret
        exact ⟨by first | rfl | (simp [errW_none, errW_some] <;> rfl) | (simp only [← hji29]; first | rfl | (simp [errW_none, errW_some] <;> rfl)) | (simp [*, errW_none, errW_some] <;> rfl), by repeat (first | (with_reducible first | exact HB.out | apply below_alloc | apply pw_below_drewN | apply below_drew1 | refine below_set ?_ GE309.out | refine below_set ?_ GE310.out) | exact HB.out)⟩
  ·replace c8 := Bool.eq_false_iff.mpr c8
   subst c8
   have H1 : ((transposallaw08_Make.f k a0 l2).bind fun bt314 => ((transposallaw08_Make.f k a1 l3).bind fun bt318 => (if (bt314.1.length : Int) = (bt318.1.length : Int) then (transposallaw08_CalendarSames.j2 k (bt314.2 == bt318.2) bt314.1 bt314.2 bt318.1 bt318.2) else (transposallaw08_CalendarSames.j2 k false bt314.1 bt314.2 bt318.1 bt318.2)))) = some r := by rw [if_neg (show ¬ (false = true) by decide)] at H; exact H
   clear H
   have H := H1
   clear H1
   replace H := Option.bind_eq_some_iff.mp H
   obtain ⟨⟨t314, t317⟩, A460, H⟩ := H
   replace H : ((transposallaw08_Make.f k a1 l3).bind fun bt318 => (if (t314.length : Int) = (bt318.1.length : Int) then (transposallaw08_CalendarSames.j2 k (t317 == bt318.2) t314 t317 bt318.1 bt318.2) else (transposallaw08_CalendarSames.j2 k false t314 t317 bt318.1 bt318.2))) = some r := H
   have A46 := Aside0.mk A460
   clear A460
   replace H := Option.bind_eq_some_iff.mp H
   obtain ⟨⟨t318, t321⟩, A470, H⟩ := H
   replace H : (if (t314.length : Int) = (t318.length : Int) then (transposallaw08_CalendarSames.j2 k (t317 == t321) t314 t317 t318 t321) else (transposallaw08_CalendarSames.j2 k false t314 t317 t318 t321)) = some r := H
   have A47 := Aside0.mk A470
   clear A470
   have HC48 := Aside0.mk H
   clear H
   go_enter Tryz.func3, Tryz.ntmps3
   go_upto_region 6 with (first | (go_at_call 12; (with_reducible refine (transposallaw08_Awake.calls k  true _ ?side1 A6.out).mono ?_); (case side1 => exact Glob.below (by repeat (first | (with_reducible first | exact HB.out | apply below_alloc | apply pw_below_drewN | apply below_drew1) | exact HB.out)) HG.out); rintro e w49 ⟨rfl, hb⟩; have n0_ := Aside0.mk (below_step (by repeat (first | (with_reducible first | exact HB.out | apply below_alloc | apply pw_below_drewN | apply below_drew1) | exact HB.out)) hb); clear HB; have HB := n0_; clear n0_; (try clear hb); (try clear hb2); (try clear hk); (try clear hi)) | (go_at_call 13; (with_reducible refine (transposallaw08_Make.calls k a0 _ _ l2 t314 t317 _ ?side1 ?side2 A46.out).mono ?_); (case side1 => repeat (first | exact (Kd.C_below HR2.out HB.out) | (with_reducible refine Kd.C_alloc ?_ _) | (with_reducible refine Kd.C_drewN ?_ _) | (with_reducible refine Kd.C_drew ?_))); (case side2 => exact HC2.out); rintro e w50 ⟨v315, rfl, ho0, hb⟩; have n0_ := Aside0.mk (Kd.R_lower ho0 (below_size (by repeat (first | (with_reducible first | exact HB.out | apply below_alloc | apply pw_below_drewN | apply below_drew1) | exact HB.out)))); have n1_ := Aside0.mk (below_step (by repeat (first | (with_reducible first | exact HB.out | apply below_alloc | apply pw_below_drewN | apply below_drew1) | exact HB.out)) hb); clear HB; have HO316 := n0_; have HB := n1_; clear n0_ n1_; (try clear hb); (try clear hb2); (try clear hk); (try clear hi); (try clear ho0)) | (go_at_call 13; (with_reducible refine (transposallaw08_Make.calls k a1 _ _ l3 t318 t321 _ ?side1 ?side2 A47.out).mono ?_); (case side1 => repeat (first | exact (Kd.C_below HR3.out HB.out) | (with_reducible refine Kd.C_alloc ?_ _) | (with_reducible refine Kd.C_drewN ?_ _) | (with_reducible refine Kd.C_drew ?_))); (case side2 => exact HC3.out); rintro e w51 ⟨v319, rfl, ho0, hb⟩; have n0_ := Aside0.mk (Kd.R_elder' (by (with_reducible repeat (first | apply Kd.R_alloc | apply Kd.R_drewN | apply Kd.R_drew)); exact HO316.out) (Kd.R_base ho0) hb); have n1_ := Aside0.mk (Kd.R_lower (Kd.R_new' ho0 (Kd.R_lt (by (with_reducible repeat (first | apply Kd.R_alloc | apply Kd.R_drewN | apply Kd.R_drew)); exact HO316.out))) (below_size (by repeat (first | (with_reducible first | exact HB.out | apply below_alloc | apply pw_below_drewN | apply below_drew1) | exact HB.out)))); have n2_ := Aside0.mk (below_step (by repeat (first | (with_reducible first | exact HB.out | apply below_alloc | apply pw_below_drewN | apply below_drew1) | exact HB.out)) hb); clear HO316; clear HB; have HO316 := n0_; have HO320 := n1_; have HB := n2_; clear n0_ n1_ n2_; (try clear hb); (try clear hb2); (try clear hk); (try clear hi); (try clear ho0)) | ((with_reducible refine gate_dst (N := 11) rfl ?_); refine box_event ?hg (N := 11) ?hd (cs := #[.slice none 0 0, .int .i32 0]) (t := 28) ?hr ?_; (case hd => rfl); (case hg => rfl); (case hr => first | (go_simp; done) | (go_simp; rfl)); intro gb322 hg w52 hbox hb; have n0_ := Aside0.mk (Kd.R_below (by (with_reducible repeat (first | apply Kd.R_alloc | apply Kd.R_drewN | apply Kd.R_drew)); exact HO316.out) hb); have n1_ := Aside0.mk (Kd.R_below (by (with_reducible repeat (first | apply Kd.R_alloc | apply Kd.R_drewN | apply Kd.R_drew)); exact HO320.out) hb); have n2_ := Aside0.mk (below_step (by repeat (first | (with_reducible first | exact HB.out | apply below_alloc | apply pw_below_drewN | apply below_drew1) | exact HB.out)) hb); have n3_ := Aside0.mk (hbox); have n4_ := Aside0.mk ((by rw [hg]; exact (below_size (by repeat (first | (with_reducible first | exact HB.out | apply below_alloc | apply pw_below_drewN | apply below_drew1) | exact HB.out))) : w.heap.size ≤ gb322)); have n5_ := Aside0.mk ((by rw [hg]; exact (below_size (by repeat (first | (with_reducible first | exact HB.out | apply below_alloc | apply pw_below_drewN | apply below_drew1) | exact HB.out))) : w.heap.size ≤ gb322)); clear HO316; clear HO320; clear HB; have HO316 := n0_; have HO320 := n1_; have HB := n2_; have BK322 := n3_; have GW322 := n4_; have GE322 := n5_; clear n0_ n1_ n2_ n3_ n4_ n5_; clear hb hbox hg) | ((with_reducible refine gate_dst (N := 12) rfl ?_); refine box_event ?hg (N := 12) ?hd (cs := #[.slice none 0 0, .int .i32 0]) (t := 28) ?hr ?_; (case hd => rfl); (case hg => rfl); (case hr => first | (go_simp; done) | (go_simp; rfl)); intro gb323 hg w53 hbox hb; have n0_ := Aside0.mk (Kd.R_below (by (with_reducible repeat (first | apply Kd.R_alloc | apply Kd.R_drewN | apply Kd.R_drew)); exact HO316.out) hb); have n1_ := Aside0.mk (Kd.R_below (by (with_reducible repeat (first | apply Kd.R_alloc | apply Kd.R_drewN | apply Kd.R_drew)); exact HO320.out) hb); have n2_ := Aside0.mk (blk_below (g := gb322) (o := .cells #[.slice none 0 0, .int .i32 0] 28 (0, 0)) (by (with_reducible repeat (first | refine blk_drewN ?_ _ | refine blk_drew ?_ | refine blk_alloc ?_ _)); exact BK322.out) hb); have n3_ := Aside0.mk (below_step (by repeat (first | (with_reducible first | exact HB.out | apply below_alloc | apply pw_below_drewN | apply below_drew1 | refine below_set ?_ GE322.out) | exact HB.out)) hb); have n4_ := Aside0.mk (hbox); have n5_ := Aside0.mk ((by rw [hg]; exact (below_size (by repeat (first | (with_reducible first | exact HB.out | apply below_alloc | apply pw_below_drewN | apply below_drew1 | refine below_set ?_ GE322.out) | exact HB.out))) : w.heap.size ≤ gb323)); have n6_ := Aside0.mk ((by rw [hg]; exact (below_size (by repeat (first | (with_reducible first | exact HB.out | apply below_alloc | apply pw_below_drewN | apply below_drew1 | refine below_set ?_ GE322.out) | exact HB.out))) : w.heap.size ≤ gb323)); have n7_ := Aside0.mk ((by rw [hg]; exact Nat.ne_of_lt (blk_lt (g := gb322) (o := .cells #[.slice none 0 0, .int .i32 0] 28 (0, 0)) (by (with_reducible repeat (first | refine blk_drewN ?_ _ | refine blk_drew ?_ | refine blk_alloc ?_ _)); exact BK322.out)) : gb322 ≠ gb323)); have n8_ := Aside0.mk ((by rw [hg]; exact Nat.ne_of_gt (blk_lt (g := gb322) (o := .cells #[.slice none 0 0, .int .i32 0] 28 (0, 0)) (by (with_reducible repeat (first | refine blk_drewN ?_ _ | refine blk_drew ?_ | refine blk_alloc ?_ _)); exact BK322.out)) : gb323 ≠ gb322)); clear HO316; clear HO320; clear BK322; clear HB; have HO316 := n0_; have HO320 := n1_; have BK322 := n2_; have HB := n3_; have BK323 := n4_; have GW323 := n5_; have GE323 := n6_; have NB322_323 := n7_; have NB323_322 := n8_; clear n0_ n1_ n2_ n3_ n4_ n5_ n6_ n7_ n8_; clear hb hbox hg; obtain ⟨Ao54, co54, eo54⟩ := Kd.R_slice HO316.out; subst eo54; have hnb55 := NB322_323.out; have hnc55 := NB323_322.out; have hcz56_0 : w53.cell? ⟨gb322, 0, none⟩ = some (.slice none 0 0) := (blk_cell BK322.out 0).trans rfl; have hcz56_1 : w53.cell? ⟨gb322, 1, none⟩ = some (.int .i32 0) := (blk_cell BK322.out 1).trans rfl; have hfz56_0 := blk_frozen BK322.out 0; have hfz56_1 := blk_frozen BK322.out 1; obtain ⟨Ao57, co57, eo57⟩ := Kd.R_slice HO320.out; subst eo57; have hcz58_0 : w53.cell? ⟨gb323, 0, none⟩ = some (.slice none 0 0) := (blk_cell BK323.out 0).trans rfl; have hcz58_1 : w53.cell? ⟨gb323, 1, none⟩ = some (.int .i32 0) := (blk_cell BK323.out 1).trans rfl; have hfz58_0 := blk_frozen BK323.out 0; have hfz58_1 := blk_frozen BK323.out 1))
   repeat (go_quiet (first | ((fail_if_success (have z_ := USA6_)); go_at_call 12; (with_reducible refine (transposallaw08_Awake.calls k  true _ ?side1 A6.out).mono ?_); (case side1 => exact Glob.below (by repeat (first | (with_reducible first | exact HB.out | apply below_alloc | apply pw_below_drewN | apply below_drew1) | exact HB.out)) HG.out); rintro e w49 ⟨rfl, hb⟩; have USA6_ := Aside0.mk (rfl : (0 : Nat) = 0); have n0_ := Aside0.mk (below_step (by repeat (first | (with_reducible first | exact HB.out | apply below_alloc | apply pw_below_drewN | apply below_drew1) | exact HB.out)) hb); clear HB; have HB := n0_; clear n0_; (try clear hb); (try clear hb2); (try clear hk); (try clear hi)) | ((fail_if_success (have z_ := USA46_)); go_at_call 13; (with_reducible refine (transposallaw08_Make.calls k a0 _ _ l2 t314 t317 _ ?side1 ?side2 A46.out).mono ?_); (case side1 => repeat (first | exact (Kd.C_below HR2.out HB.out) | (with_reducible refine Kd.C_alloc ?_ _) | (with_reducible refine Kd.C_drewN ?_ _) | (with_reducible refine Kd.C_drew ?_))); (case side2 => exact HC2.out); rintro e w50 ⟨v315, rfl, ho0, hb⟩; have USA46_ := Aside0.mk (rfl : (0 : Nat) = 0); have n0_ := Aside0.mk (Kd.R_lower ho0 (below_size (by repeat (first | (with_reducible first | exact HB.out | apply below_alloc | apply pw_below_drewN | apply below_drew1) | exact HB.out)))); have n1_ := Aside0.mk (below_step (by repeat (first | (with_reducible first | exact HB.out | apply below_alloc | apply pw_below_drewN | apply below_drew1) | exact HB.out)) hb); clear HB; have HO316 := n0_; have HB := n1_; clear n0_ n1_; (try clear hb); (try clear hb2); (try clear hk); (try clear hi); (try clear ho0)) | ((fail_if_success (have z_ := USA47_)); go_at_call 13; (with_reducible refine (transposallaw08_Make.calls k a1 _ _ l3 t318 t321 _ ?side1 ?side2 A47.out).mono ?_); (case side1 => repeat (first | exact (Kd.C_below HR3.out HB.out) | (with_reducible refine Kd.C_alloc ?_ _) | (with_reducible refine Kd.C_drewN ?_ _) | (with_reducible refine Kd.C_drew ?_))); (case side2 => exact HC3.out); rintro e w51 ⟨v319, rfl, ho0, hb⟩; have USA47_ := Aside0.mk (rfl : (0 : Nat) = 0); have n0_ := Aside0.mk (Kd.R_elder' (by (with_reducible repeat (first | apply Kd.R_alloc | apply Kd.R_drewN | apply Kd.R_drew)); exact HO316.out) (Kd.R_base ho0) hb); have n1_ := Aside0.mk (Kd.R_lower (Kd.R_new' ho0 (Kd.R_lt (by (with_reducible repeat (first | apply Kd.R_alloc | apply Kd.R_drewN | apply Kd.R_drew)); exact HO316.out))) (below_size (by repeat (first | (with_reducible first | exact HB.out | apply below_alloc | apply pw_below_drewN | apply below_drew1) | exact HB.out)))); have n2_ := Aside0.mk (below_step (by repeat (first | (with_reducible first | exact HB.out | apply below_alloc | apply pw_below_drewN | apply below_drew1) | exact HB.out)) hb); clear HO316; clear HB; have HO316 := n0_; have HO320 := n1_; have HB := n2_; clear n0_ n1_ n2_; (try clear hb); (try clear hb2); (try clear hk); (try clear hi); (try clear ho0)) | ((with_reducible refine gate_dst (N := 11) rfl ?_); refine box_event ?hg (N := 11) ?hd (cs := #[.slice none 0 0, .int .i32 0]) (t := 28) ?hr ?_; (case hd => rfl); (case hg => rfl); (case hr => first | (go_simp; done) | (go_simp; rfl)); intro gb322 hg w52 hbox hb; have n0_ := Aside0.mk (Kd.R_below (by (with_reducible repeat (first | apply Kd.R_alloc | apply Kd.R_drewN | apply Kd.R_drew)); exact HO316.out) hb); have n1_ := Aside0.mk (Kd.R_below (by (with_reducible repeat (first | apply Kd.R_alloc | apply Kd.R_drewN | apply Kd.R_drew)); exact HO320.out) hb); have n2_ := Aside0.mk (below_step (by repeat (first | (with_reducible first | exact HB.out | apply below_alloc | apply pw_below_drewN | apply below_drew1) | exact HB.out)) hb); have n3_ := Aside0.mk (hbox); have n4_ := Aside0.mk ((by rw [hg]; exact (below_size (by repeat (first | (with_reducible first | exact HB.out | apply below_alloc | apply pw_below_drewN | apply below_drew1) | exact HB.out))) : w.heap.size ≤ gb322)); have n5_ := Aside0.mk ((by rw [hg]; exact (below_size (by repeat (first | (with_reducible first | exact HB.out | apply below_alloc | apply pw_below_drewN | apply below_drew1) | exact HB.out))) : w.heap.size ≤ gb322)); clear HO316; clear HO320; clear HB; have HO316 := n0_; have HO320 := n1_; have HB := n2_; have BK322 := n3_; have GW322 := n4_; have GE322 := n5_; clear n0_ n1_ n2_ n3_ n4_ n5_; clear hb hbox hg) | ((with_reducible refine gate_dst (N := 12) rfl ?_); refine box_event ?hg (N := 12) ?hd (cs := #[.slice none 0 0, .int .i32 0]) (t := 28) ?hr ?_; (case hd => rfl); (case hg => rfl); (case hr => first | (go_simp; done) | (go_simp; rfl)); intro gb323 hg w53 hbox hb; have n0_ := Aside0.mk (Kd.R_below (by (with_reducible repeat (first | apply Kd.R_alloc | apply Kd.R_drewN | apply Kd.R_drew)); exact HO316.out) hb); have n1_ := Aside0.mk (Kd.R_below (by (with_reducible repeat (first | apply Kd.R_alloc | apply Kd.R_drewN | apply Kd.R_drew)); exact HO320.out) hb); have n2_ := Aside0.mk (blk_below (g := gb322) (o := .cells #[.slice none 0 0, .int .i32 0] 28 (0, 0)) (by (with_reducible repeat (first | refine blk_drewN ?_ _ | refine blk_drew ?_ | refine blk_alloc ?_ _)); exact BK322.out) hb); have n3_ := Aside0.mk (below_step (by repeat (first | (with_reducible first | exact HB.out | apply below_alloc | apply pw_below_drewN | apply below_drew1 | refine below_set ?_ GE322.out) | exact HB.out)) hb); have n4_ := Aside0.mk (hbox); have n5_ := Aside0.mk ((by rw [hg]; exact (below_size (by repeat (first | (with_reducible first | exact HB.out | apply below_alloc | apply pw_below_drewN | apply below_drew1 | refine below_set ?_ GE322.out) | exact HB.out))) : w.heap.size ≤ gb323)); have n6_ := Aside0.mk ((by rw [hg]; exact (below_size (by repeat (first | (with_reducible first | exact HB.out | apply below_alloc | apply pw_below_drewN | apply below_drew1 | refine below_set ?_ GE322.out) | exact HB.out))) : w.heap.size ≤ gb323)); have n7_ := Aside0.mk ((by rw [hg]; exact Nat.ne_of_lt (blk_lt (g := gb322) (o := .cells #[.slice none 0 0, .int .i32 0] 28 (0, 0)) (by (with_reducible repeat (first | refine blk_drewN ?_ _ | refine blk_drew ?_ | refine blk_alloc ?_ _)); exact BK322.out)) : gb322 ≠ gb323)); have n8_ := Aside0.mk ((by rw [hg]; exact Nat.ne_of_gt (blk_lt (g := gb322) (o := .cells #[.slice none 0 0, .int .i32 0] 28 (0, 0)) (by (with_reducible repeat (first | refine blk_drewN ?_ _ | refine blk_drew ?_ | refine blk_alloc ?_ _)); exact BK322.out)) : gb323 ≠ gb322)); clear HO316; clear HO320; clear BK322; clear HB; have HO316 := n0_; have HO320 := n1_; have BK322 := n2_; have HB := n3_; have BK323 := n4_; have GW323 := n5_; have GE323 := n6_; have NB322_323 := n7_; have NB323_322 := n8_; clear n0_ n1_ n2_ n3_ n4_ n5_ n6_ n7_ n8_; clear hb hbox hg; obtain ⟨Ao54, co54, eo54⟩ := Kd.R_slice HO316.out; subst eo54; have hnb55 := NB322_323.out; have hnc55 := NB323_322.out; have hcz56_0 : w53.cell? ⟨gb322, 0, none⟩ = some (.slice none 0 0) := (blk_cell BK322.out 0).trans rfl; have hcz56_1 : w53.cell? ⟨gb322, 1, none⟩ = some (.int .i32 0) := (blk_cell BK322.out 1).trans rfl; have hfz56_0 := blk_frozen BK322.out 0; have hfz56_1 := blk_frozen BK322.out 1; obtain ⟨Ao57, co57, eo57⟩ := Kd.R_slice HO320.out; subst eo57; have hcz58_0 : w53.cell? ⟨gb323, 0, none⟩ = some (.slice none 0 0) := (blk_cell BK323.out 0).trans rfl; have hcz58_1 : w53.cell? ⟨gb323, 1, none⟩ = some (.int .i32 0) := (blk_cell BK323.out 1).trans rfl; have hfz58_0 := blk_frozen BK323.out 0; have hfz58_1 := blk_frozen BK323.out 1)); go_upto_region 6 with (first | ((fail_if_success (have z_ := USA6_)); go_at_call 12; (with_reducible refine (transposallaw08_Awake.calls k  true _ ?side1 A6.out).mono ?_); (case side1 => exact Glob.below (by repeat (first | (with_reducible first | exact HB.out | apply below_alloc | apply pw_below_drewN | apply below_drew1) | exact HB.out)) HG.out); rintro e w49 ⟨rfl, hb⟩; have USA6_ := Aside0.mk (rfl : (0 : Nat) = 0); have n0_ := Aside0.mk (below_step (by repeat (first | (with_reducible first | exact HB.out | apply below_alloc | apply pw_below_drewN | apply below_drew1) | exact HB.out)) hb); clear HB; have HB := n0_; clear n0_; (try clear hb); (try clear hb2); (try clear hk); (try clear hi)) | ((fail_if_success (have z_ := USA46_)); go_at_call 13; (with_reducible refine (transposallaw08_Make.calls k a0 _ _ l2 t314 t317 _ ?side1 ?side2 A46.out).mono ?_); (case side1 => repeat (first | exact (Kd.C_below HR2.out HB.out) | (with_reducible refine Kd.C_alloc ?_ _) | (with_reducible refine Kd.C_drewN ?_ _) | (with_reducible refine Kd.C_drew ?_))); (case side2 => exact HC2.out); rintro e w50 ⟨v315, rfl, ho0, hb⟩; have USA46_ := Aside0.mk (rfl : (0 : Nat) = 0); have n0_ := Aside0.mk (Kd.R_lower ho0 (below_size (by repeat (first | (with_reducible first | exact HB.out | apply below_alloc | apply pw_below_drewN | apply below_drew1) | exact HB.out)))); have n1_ := Aside0.mk (below_step (by repeat (first | (with_reducible first | exact HB.out | apply below_alloc | apply pw_below_drewN | apply below_drew1) | exact HB.out)) hb); clear HB; have HO316 := n0_; have HB := n1_; clear n0_ n1_; (try clear hb); (try clear hb2); (try clear hk); (try clear hi); (try clear ho0)) | ((fail_if_success (have z_ := USA47_)); go_at_call 13; (with_reducible refine (transposallaw08_Make.calls k a1 _ _ l3 t318 t321 _ ?side1 ?side2 A47.out).mono ?_); (case side1 => repeat (first | exact (Kd.C_below HR3.out HB.out) | (with_reducible refine Kd.C_alloc ?_ _) | (with_reducible refine Kd.C_drewN ?_ _) | (with_reducible refine Kd.C_drew ?_))); (case side2 => exact HC3.out); rintro e w51 ⟨v319, rfl, ho0, hb⟩; have USA47_ := Aside0.mk (rfl : (0 : Nat) = 0); have n0_ := Aside0.mk (Kd.R_elder' (by (with_reducible repeat (first | apply Kd.R_alloc | apply Kd.R_drewN | apply Kd.R_drew)); exact HO316.out) (Kd.R_base ho0) hb); have n1_ := Aside0.mk (Kd.R_lower (Kd.R_new' ho0 (Kd.R_lt (by (with_reducible repeat (first | apply Kd.R_alloc | apply Kd.R_drewN | apply Kd.R_drew)); exact HO316.out))) (below_size (by repeat (first | (with_reducible first | exact HB.out | apply below_alloc | apply pw_below_drewN | apply below_drew1) | exact HB.out)))); have n2_ := Aside0.mk (below_step (by repeat (first | (with_reducible first | exact HB.out | apply below_alloc | apply pw_below_drewN | apply below_drew1) | exact HB.out)) hb); clear HO316; clear HB; have HO316 := n0_; have HO320 := n1_; have HB := n2_; clear n0_ n1_ n2_; (try clear hb); (try clear hb2); (try clear hk); (try clear hi); (try clear ho0)) | ((with_reducible refine gate_dst (N := 11) rfl ?_); refine box_event ?hg (N := 11) ?hd (cs := #[.slice none 0 0, .int .i32 0]) (t := 28) ?hr ?_; (case hd => rfl); (case hg => rfl); (case hr => first | (go_simp; done) | (go_simp; rfl)); intro gb322 hg w52 hbox hb; have n0_ := Aside0.mk (Kd.R_below (by (with_reducible repeat (first | apply Kd.R_alloc | apply Kd.R_drewN | apply Kd.R_drew)); exact HO316.out) hb); have n1_ := Aside0.mk (Kd.R_below (by (with_reducible repeat (first | apply Kd.R_alloc | apply Kd.R_drewN | apply Kd.R_drew)); exact HO320.out) hb); have n2_ := Aside0.mk (below_step (by repeat (first | (with_reducible first | exact HB.out | apply below_alloc | apply pw_below_drewN | apply below_drew1) | exact HB.out)) hb); have n3_ := Aside0.mk (hbox); have n4_ := Aside0.mk ((by rw [hg]; exact (below_size (by repeat (first | (with_reducible first | exact HB.out | apply below_alloc | apply pw_below_drewN | apply below_drew1) | exact HB.out))) : w.heap.size ≤ gb322)); have n5_ := Aside0.mk ((by rw [hg]; exact (below_size (by repeat (first | (with_reducible first | exact HB.out | apply below_alloc | apply pw_below_drewN | apply below_drew1) | exact HB.out))) : w.heap.size ≤ gb322)); clear HO316; clear HO320; clear HB; have HO316 := n0_; have HO320 := n1_; have HB := n2_; have BK322 := n3_; have GW322 := n4_; have GE322 := n5_; clear n0_ n1_ n2_ n3_ n4_ n5_; clear hb hbox hg) | ((with_reducible refine gate_dst (N := 12) rfl ?_); refine box_event ?hg (N := 12) ?hd (cs := #[.slice none 0 0, .int .i32 0]) (t := 28) ?hr ?_; (case hd => rfl); (case hg => rfl); (case hr => first | (go_simp; done) | (go_simp; rfl)); intro gb323 hg w53 hbox hb; have n0_ := Aside0.mk (Kd.R_below (by (with_reducible repeat (first | apply Kd.R_alloc | apply Kd.R_drewN | apply Kd.R_drew)); exact HO316.out) hb); have n1_ := Aside0.mk (Kd.R_below (by (with_reducible repeat (first | apply Kd.R_alloc | apply Kd.R_drewN | apply Kd.R_drew)); exact HO320.out) hb); have n2_ := Aside0.mk (blk_below (g := gb322) (o := .cells #[.slice none 0 0, .int .i32 0] 28 (0, 0)) (by (with_reducible repeat (first | refine blk_drewN ?_ _ | refine blk_drew ?_ | refine blk_alloc ?_ _)); exact BK322.out) hb); have n3_ := Aside0.mk (below_step (by repeat (first | (with_reducible first | exact HB.out | apply below_alloc | apply pw_below_drewN | apply below_drew1 | refine below_set ?_ GE322.out) | exact HB.out)) hb); have n4_ := Aside0.mk (hbox); have n5_ := Aside0.mk ((by rw [hg]; exact (below_size (by repeat (first | (with_reducible first | exact HB.out | apply below_alloc | apply pw_below_drewN | apply below_drew1 | refine below_set ?_ GE322.out) | exact HB.out))) : w.heap.size ≤ gb323)); have n6_ := Aside0.mk ((by rw [hg]; exact (below_size (by repeat (first | (with_reducible first | exact HB.out | apply below_alloc | apply pw_below_drewN | apply below_drew1 | refine below_set ?_ GE322.out) | exact HB.out))) : w.heap.size ≤ gb323)); have n7_ := Aside0.mk ((by rw [hg]; exact Nat.ne_of_lt (blk_lt (g := gb322) (o := .cells #[.slice none 0 0, .int .i32 0] 28 (0, 0)) (by (with_reducible repeat (first | refine blk_drewN ?_ _ | refine blk_drew ?_ | refine blk_alloc ?_ _)); exact BK322.out)) : gb322 ≠ gb323)); have n8_ := Aside0.mk ((by rw [hg]; exact Nat.ne_of_gt (blk_lt (g := gb322) (o := .cells #[.slice none 0 0, .int .i32 0] 28 (0, 0)) (by (with_reducible repeat (first | refine blk_drewN ?_ _ | refine blk_drew ?_ | refine blk_alloc ?_ _)); exact BK322.out)) : gb323 ≠ gb322)); clear HO316; clear HO320; clear BK322; clear HB; have HO316 := n0_; have HO320 := n1_; have BK322 := n2_; have HB := n3_; have BK323 := n4_; have GW323 := n5_; have GE323 := n6_; have NB322_323 := n7_; have NB323_322 := n8_; clear n0_ n1_ n2_ n3_ n4_ n5_ n6_ n7_ n8_; clear hb hbox hg; obtain ⟨Ao54, co54, eo54⟩ := Kd.R_slice HO316.out; subst eo54; have hnb55 := NB322_323.out; have hnc55 := NB323_322.out; have hcz56_0 : w53.cell? ⟨gb322, 0, none⟩ = some (.slice none 0 0) := (blk_cell BK322.out 0).trans rfl; have hcz56_1 : w53.cell? ⟨gb322, 1, none⟩ = some (.int .i32 0) := (blk_cell BK322.out 1).trans rfl; have hfz56_0 := blk_frozen BK322.out 0; have hfz56_1 := blk_frozen BK322.out 1; obtain ⟨Ao57, co57, eo57⟩ := Kd.R_slice HO320.out; subst eo57; have hcz58_0 : w53.cell? ⟨gb323, 0, none⟩ = some (.slice none 0 0) := (blk_cell BK323.out 0).trans rfl; have hcz58_1 : w53.cell? ⟨gb323, 1, none⟩ = some (.int .i32 0) := (blk_cell BK323.out 1).trans rfl; have hfz58_0 := blk_frozen BK323.out 0; have hfz58_1 := blk_frozen BK323.out 1)))
   (try simp only [Act.put, List.setIfInBounds_toArray, List.set_cons_zero, List.set_cons_succ])
   go_cut [13] (fun v13 wc => ∃ (kq : Nat) (x13_47 : Bool), v13 = .bool x13_47 ∧ Aside0 (transposallaw08_CalendarSames.j2 kq x13_47 t314 t317 t318 t321 = some r) ∧ Aside0 (kq ≤ k) ∧ Aside0 (Kd.R (Kd.int .i32) 26 wc w.heap.size (fun k_ => some k_ ≠ ((.slice Ao57 t318.length co57) : Value).ownBlock) (.slice Ao54 t314.length co54) t314) ∧ Aside0 (Kd.R (Kd.int .i32) 26 wc w.heap.size (fun k_ => some k_ ≠ ((.slice Ao54 t314.length co54) : Value).ownBlock) (.slice Ao57 t318.length co57) t318) ∧ Aside0 (wc.heap[gb322]? = some (.cells #[(.slice Ao54 t314.length co54), .int .i32 t317] 28 (0, 0))) ∧ Aside0 (wc.heap[gb323]? = some (.cells #[(.slice Ao57 t318.length co57), .int .i32 t321] 28 (0, 0))) ∧ Aside0 (Below w.heap.size w wc))
   case first =>
    have H := HC48.out
    clear HC48
    by_cases c59 : (t314.length : Int) = (t318.length : Int)
    ·rw [if_pos c59] at H
     have c59b0 : ((t314.length : Int) == (t318.length : Int)) = true := beq_iff_eq.mpr c59
     have c59b1 : ((t314.length : Int) != (t318.length : Int)) = false := bne_eq_false_iff_eq.mpr c59
     have c59b2 : (t314.length == t318.length) = true := by first | simpa using c59 | (simp at c59 ⊢; omega)
     clear c59
     (first | rw [c59b0] | (simp only [i64_w, i32_w]; rw [c59b0]) | skip)
     have H' := Aside0.mk H
     clear H
     have hnb60 := NB322_323.out
     have hnc60 := NB323_322.out
     have hcz61_0 : w53.cell? ⟨gb322, 0, none⟩ = some (.slice none 0 0) := (blk_cell BK322.out 0).trans rfl
     have hcz61_1 : w53.cell? ⟨gb322, 1, none⟩ = some (.int .i32 0) := (blk_cell BK322.out 1).trans rfl
     have hfz61_0 := blk_frozen BK322.out 0
     have hfz61_1 := blk_frozen BK322.out 1
     have hcz62_0 : w53.cell? ⟨gb323, 0, none⟩ = some (.slice none 0 0) := (blk_cell BK323.out 0).trans rfl
     have hcz62_1 : w53.cell? ⟨gb323, 1, none⟩ = some (.int .i32 0) := (blk_cell BK323.out 1).trans rfl
     have hfz62_0 := blk_frozen BK323.out 0
     have hfz62_1 := blk_frozen BK323.out 1
     go_wp2
     repeat (go_quiet (fail); try go_wp2)
     go_meet
     case rel => exact ⟨_, ((t317 == t321)), (by first | rfl | (simp; done) | (simp [*]; done)), H', ⟨by first | omega | exact Nat.le_refl _⟩, ⟨by (with_reducible repeat (first | apply Kd.R_alloc | apply Kd.R_drewN | apply Kd.R_drew)); exact Kd.R_mono (Kd.R_far (p := ⟨gb323, 1, none⟩) (Kd.R_far (p := ⟨gb323, 0, none⟩) (Kd.R_far (p := ⟨gb322, 1, none⟩) (Kd.R_far (p := ⟨gb322, 0, none⟩) (Kd.R_types (Kd.R_types HO316.out BK322.out (by decide)) BK323.out (by decide)) (fun _ hk => hk.1.2) (.slice Ao54 t314.length co54)) (fun _ hk => hk.1.2) (.int .i32 t317)) (fun _ hk => hk.2) (.slice Ao57 t318.length co57)) (fun _ hk => hk.2) (.int .i32 t321)) (fun _ hk => hk.1.1.2)⟩, ⟨by (with_reducible repeat (first | apply Kd.R_alloc | apply Kd.R_drewN | apply Kd.R_drew)); exact Kd.R_mono (Kd.R_far (p := ⟨gb323, 1, none⟩) (Kd.R_far (p := ⟨gb323, 0, none⟩) (Kd.R_far (p := ⟨gb322, 1, none⟩) (Kd.R_far (p := ⟨gb322, 0, none⟩) (Kd.R_types (Kd.R_types HO320.out BK322.out (by decide)) BK323.out (by decide)) (fun _ hk => hk.1.2) (.slice Ao54 t314.length co54)) (fun _ hk => hk.1.2) (.int .i32 t317)) (fun _ hk => hk.2) (.slice Ao57 t318.length co57)) (fun _ hk => hk.2) (.int .i32 t321)) (fun _ hk => hk.1.1.2)⟩, ⟨by (with_reducible repeat (first | refine blk_drewN ?_ _ | refine blk_drew ?_ | refine blk_alloc ?_ _)); refine blk_far ?_ NB322_323.out _; (with_reducible repeat (first | refine blk_drewN ?_ _ | refine blk_drew ?_ | refine blk_alloc ?_ _)); refine blk_far ?_ NB322_323.out _; (with_reducible repeat (first | refine blk_drewN ?_ _ | refine blk_drew ?_ | refine blk_alloc ?_ _)); refine blk_put (cs := #[.slice Ao54 t314.length co54, .int .i32 0]) ?_ 1 _ rfl; (with_reducible repeat (first | refine blk_drewN ?_ _ | refine blk_drew ?_ | refine blk_alloc ?_ _)); refine blk_put (cs := #[.slice none 0 0, .int .i32 0]) ?_ 0 _ rfl; (with_reducible repeat (first | refine blk_drewN ?_ _ | refine blk_drew ?_ | refine blk_alloc ?_ _)); exact BK322.out⟩, ⟨by (with_reducible repeat (first | refine blk_drewN ?_ _ | refine blk_drew ?_ | refine blk_alloc ?_ _)); refine blk_put (cs := #[.slice Ao57 t318.length co57, .int .i32 0]) ?_ 1 _ rfl; (with_reducible repeat (first | refine blk_drewN ?_ _ | refine blk_drew ?_ | refine blk_alloc ?_ _)); refine blk_put (cs := #[.slice none 0 0, .int .i32 0]) ?_ 0 _ rfl; (with_reducible repeat (first | refine blk_drewN ?_ _ | refine blk_drew ?_ | refine blk_alloc ?_ _)); refine blk_far ?_ NB323_322.out _; (with_reducible repeat (first | refine blk_drewN ?_ _ | refine blk_drew ?_ | refine blk_alloc ?_ _)); refine blk_far ?_ NB323_322.out _; (with_reducible repeat (first | refine blk_drewN ?_ _ | refine blk_drew ?_ | refine blk_alloc ?_ _)); exact BK323.out⟩, ⟨by repeat (first | (with_reducible first | exact HB.out | apply below_alloc | apply pw_below_drewN | apply below_drew1 | refine below_set ?_ GE322.out | refine below_set ?_ GE323.out) | exact HB.out)⟩⟩
    ·rw [if_neg c59] at H
     have c59b0 : ((t314.length : Int) == (t318.length : Int)) = false := beq_eq_false_iff_ne.mpr c59
     have c59b1 : ((t314.length : Int) != (t318.length : Int)) = true := bne_iff_ne.mpr c59
     have c59b2 : (t314.length == t318.length) = false := by first | simpa using c59 | (simp at c59 ⊢; omega)
     (first | rw [c59b0] | (simp only [i64_w, i32_w]; rw [c59b0]) | skip)
     have H' := Aside0.mk H
     clear H
     have hnb63 := NB322_323.out
     have hnc63 := NB323_322.out
     have hcz64_0 : w53.cell? ⟨gb322, 0, none⟩ = some (.slice none 0 0) := (blk_cell BK322.out 0).trans rfl
     have hcz64_1 : w53.cell? ⟨gb322, 1, none⟩ = some (.int .i32 0) := (blk_cell BK322.out 1).trans rfl
     have hfz64_0 := blk_frozen BK322.out 0
     have hfz64_1 := blk_frozen BK322.out 1
     have hcz65_0 : w53.cell? ⟨gb323, 0, none⟩ = some (.slice none 0 0) := (blk_cell BK323.out 0).trans rfl
     have hcz65_1 : w53.cell? ⟨gb323, 1, none⟩ = some (.int .i32 0) := (blk_cell BK323.out 1).trans rfl
     have hfz65_0 := blk_frozen BK323.out 0
     have hfz65_1 := blk_frozen BK323.out 1
     go_wp2
     repeat (go_quiet (fail); try go_wp2)
     go_meet
     case rel => exact ⟨_, (false), (by first | rfl | (simp; done) | (simp [*]; done)), H', ⟨by first | omega | exact Nat.le_refl _⟩, ⟨by (with_reducible repeat (first | apply Kd.R_alloc | apply Kd.R_drewN | apply Kd.R_drew)); exact Kd.R_mono (Kd.R_far (p := ⟨gb323, 1, none⟩) (Kd.R_far (p := ⟨gb323, 0, none⟩) (Kd.R_far (p := ⟨gb322, 1, none⟩) (Kd.R_far (p := ⟨gb322, 0, none⟩) (Kd.R_types (Kd.R_types HO316.out BK322.out (by decide)) BK323.out (by decide)) (fun _ hk => hk.1.2) (.slice Ao54 t314.length co54)) (fun _ hk => hk.1.2) (.int .i32 t317)) (fun _ hk => hk.2) (.slice Ao57 t318.length co57)) (fun _ hk => hk.2) (.int .i32 t321)) (fun _ hk => hk.1.1.2)⟩, ⟨by (with_reducible repeat (first | apply Kd.R_alloc | apply Kd.R_drewN | apply Kd.R_drew)); exact Kd.R_mono (Kd.R_far (p := ⟨gb323, 1, none⟩) (Kd.R_far (p := ⟨gb323, 0, none⟩) (Kd.R_far (p := ⟨gb322, 1, none⟩) (Kd.R_far (p := ⟨gb322, 0, none⟩) (Kd.R_types (Kd.R_types HO320.out BK322.out (by decide)) BK323.out (by decide)) (fun _ hk => hk.1.2) (.slice Ao54 t314.length co54)) (fun _ hk => hk.1.2) (.int .i32 t317)) (fun _ hk => hk.2) (.slice Ao57 t318.length co57)) (fun _ hk => hk.2) (.int .i32 t321)) (fun _ hk => hk.1.1.2)⟩, ⟨by (with_reducible repeat (first | refine blk_drewN ?_ _ | refine blk_drew ?_ | refine blk_alloc ?_ _)); refine blk_far ?_ NB322_323.out _; (with_reducible repeat (first | refine blk_drewN ?_ _ | refine blk_drew ?_ | refine blk_alloc ?_ _)); refine blk_far ?_ NB322_323.out _; (with_reducible repeat (first | refine blk_drewN ?_ _ | refine blk_drew ?_ | refine blk_alloc ?_ _)); refine blk_put (cs := #[.slice Ao54 t314.length co54, .int .i32 0]) ?_ 1 _ rfl; (with_reducible repeat (first | refine blk_drewN ?_ _ | refine blk_drew ?_ | refine blk_alloc ?_ _)); refine blk_put (cs := #[.slice none 0 0, .int .i32 0]) ?_ 0 _ rfl; (with_reducible repeat (first | refine blk_drewN ?_ _ | refine blk_drew ?_ | refine blk_alloc ?_ _)); exact BK322.out⟩, ⟨by (with_reducible repeat (first | refine blk_drewN ?_ _ | refine blk_drew ?_ | refine blk_alloc ?_ _)); refine blk_put (cs := #[.slice Ao57 t318.length co57, .int .i32 0]) ?_ 1 _ rfl; (with_reducible repeat (first | refine blk_drewN ?_ _ | refine blk_drew ?_ | refine blk_alloc ?_ _)); refine blk_put (cs := #[.slice none 0 0, .int .i32 0]) ?_ 0 _ rfl; (with_reducible repeat (first | refine blk_drewN ?_ _ | refine blk_drew ?_ | refine blk_alloc ?_ _)); refine blk_far ?_ NB323_322.out _; (with_reducible repeat (first | refine blk_drewN ?_ _ | refine blk_drew ?_ | refine blk_alloc ?_ _)); refine blk_far ?_ NB323_322.out _; (with_reducible repeat (first | refine blk_drewN ?_ _ | refine blk_drew ?_ | refine blk_alloc ?_ _)); exact BK323.out⟩, ⟨by repeat (first | (with_reducible first | exact HB.out | apply below_alloc | apply pw_below_drewN | apply below_drew1 | refine below_set ?_ GE322.out | refine below_set ?_ GE323.out) | exact HB.out)⟩⟩
   case rest =>
    clear HC48
    try clear c1
    try clear c2
    try clear p2
    try clear c3
    try clear p3
    try clear q3
    try clear hx3
    try clear c4
    try clear c5
    try clear c6
    try clear p6
    try clear c7
    try clear c8
    try clear c18
    try clear c22
    try clear c22b0
    try clear c22b1
    try clear c22b2
    try clear c23
    try clear c26
    try clear c30
    try clear p31
    try clear q31
    try clear hx31
    try clear c33
    try clear c33b0
    try clear c34
    try clear c35
    try clear c35b0
    try clear c36
    try clear c36b0
    try clear c37
    try clear c37b0
    try clear c38
    try clear c42
    try clear c55
    try clear c59
    try clear c59b0
    try clear c59b1
    try clear c59b2
    try clear c60
    try clear c63
    try clear p64
    try clear hcz19_0
    try clear hcz19_1
    try clear hcz21_0
    try clear hcz21_1
    try clear hcz24_0
    try clear hcz24_1
    try clear hcz25_0
    try clear hcz25_1
    try clear hcz27_0
    try clear hcz27_1
    try clear hcz28_0
    try clear hcz28_1
    try clear hcz31_0
    try clear hcz31_1
    try clear hcz32_0
    try clear hcz32_1
    try clear hcz39_0
    try clear hcz39_1
    try clear hcz40_0
    try clear hcz40_1
    try clear hcz43_0
    try clear hcz43_1
    try clear hcz44_0
    try clear hcz44_1
    try clear hcz56_0
    try clear hcz56_1
    try clear hcz58_0
    try clear hcz58_1
    try clear hcz61_0
    try clear hcz61_1
    try clear hcz62_0
    try clear hcz62_1
    try clear hcz64_0
    try clear hcz64_1
    try clear hcz65_0
    try clear hcz65_1
    try clear hfz19_0
    try clear hfz19_1
    try clear hfz21_0
    try clear hfz21_1
    try clear hfz24_0
    try clear hfz24_1
    try clear hfz25_0
    try clear hfz25_1
    try clear hfz27_0
    try clear hfz27_1
    try clear hfz28_0
    try clear hfz28_1
    try clear hfz31_0
    try clear hfz31_1
    try clear hfz32_0
    try clear hfz32_1
    try clear hfz39_0
    try clear hfz39_1
    try clear hfz40_0
    try clear hfz40_1
    try clear hfz43_0
    try clear hfz43_1
    try clear hfz44_0
    try clear hfz44_1
    try clear hfz56_0
    try clear hfz56_1
    try clear hfz58_0
    try clear hfz58_1
    try clear hfz61_0
    try clear hfz61_1
    try clear hfz62_0
    try clear hfz62_1
    try clear hfz64_0
    try clear hfz64_1
    try clear hfz65_0
    try clear hfz65_1
    try clear hx311_0
    try clear hx312_0
    try clear p2
    try clear p311
    try clear p312
    try clear q311
    try clear q312
    obtain ⟨kq, x13_47, rfl, HA, HJ47, HO_323000, HO_324000, BK322, BK323, HB⟩ := hcut
    cases kq with
    | zero => exact absurd HA.out (by simp [transposallaw08_CalendarSames.j2])
    | succ kj47 =>
     have H := HA.out
     clear HA
     simp only [transposallaw08_CalendarSames.j2] at H
     obtain ⟨ji66, hji66⟩ : ∃ j_ : Int, (mn (t314.length : Int) (t318.length : Int)) = j_ := ⟨_, rfl⟩
     replace H : (transposallaw08_CalendarSames.l1 kj47 x13_47 ji66 0 t314 t317 t318 t321) = some r := by first | (rw [hji66] at H; exact H) | (simp only [hji66] at H ⊢; exact H)
     have hji66_ : (if (t318.length : Int) < (t314.length : Int) then (t318.length : Int) else (t314.length : Int)) = ji66 := hji66
     have hji66n_ : (if t318.length < t314.length then (t318.length : Int) else (t314.length : Int)) = ji66 := by have z_ := hji66_; simpa only [Int.ofNat_lt] using z_
     have H' := Aside0.mk H
     clear H
     have hnb67 := NB322_323.out
     have hnc67 := NB323_322.out
     have hcz68_0 : wc.cell? ⟨gb322, 0, none⟩ = some (.slice Ao54 t314.length co54) := (blk_cell BK322.out 0).trans rfl
     have hcz68_1 : wc.cell? ⟨gb322, 1, none⟩ = some (.int .i32 t317) := (blk_cell BK322.out 1).trans rfl
     have hfz68_0 := blk_frozen BK322.out 0
     have hfz68_1 := blk_frozen BK322.out 1
     have hcz69_0 : wc.cell? ⟨gb323, 0, none⟩ = some (.slice Ao57 t318.length co57) := (blk_cell BK323.out 0).trans rfl
     have hcz69_1 : wc.cell? ⟨gb323, 1, none⟩ = some (.int .i32 t321) := (blk_cell BK323.out 1).trans rfl
     have hfz69_0 := blk_frozen BK323.out 0
     have hfz69_1 := blk_frozen BK323.out 1
     go_wp2
     repeat (go_quiet (fail); try go_wp2)
     go_loopg [13, 47] kj47 (fun kq v13 v47 w' => ∃ (x13_2 : Bool) (x47_2 : Int), v13 = .bool x13_2 ∧ v47 = .int .i64 x47_2 ∧ Aside0 (transposallaw08_CalendarSames.l1 kq x13_2 ji66 x47_2 t314 t317 t318 t321 = some r) ∧ Aside0 (kq ≤ kj47) ∧ Aside0 (Kd.R (Kd.int .i32) 26 w' w.heap.size (fun k_ => some k_ ≠ ((.slice Ao57 t318.length co57) : Value).ownBlock) (.slice Ao54 t314.length co54) t314) ∧ Aside0 (Kd.R (Kd.int .i32) 26 w' w.heap.size (fun k_ => some k_ ≠ ((.slice Ao54 t314.length co54) : Value).ownBlock) (.slice Ao57 t318.length co57) t318) ∧ Aside0 (w'.heap[gb322]? = some (.cells #[(.slice Ao54 t314.length co54), .int .i32 t317] 28 (0, 0))) ∧ Aside0 (w'.heap[gb323]? = some (.cells #[(.slice Ao57 t318.length co57), .int .i32 t321] 28 (0, 0))) ∧ Aside0 (Below w.heap.size w w'))
     case atStart => exact ⟨(x13_47), (0), (by first | rfl | (simp; done) | (simp [*]; done)), (by first | rfl | (simp; done) | (simp [*]; done)), H', ⟨Nat.le_refl _⟩, ⟨by (with_reducible repeat (first | apply Kd.R_alloc | apply Kd.R_drewN | apply Kd.R_drew)); exact HO_323000.out⟩, ⟨by (with_reducible repeat (first | apply Kd.R_alloc | apply Kd.R_drewN | apply Kd.R_drew)); exact HO_324000.out⟩, ⟨by (with_reducible repeat (first | refine blk_drewN ?_ _ | refine blk_drew ?_ | refine blk_alloc ?_ _)); exact BK322.out⟩, ⟨by (with_reducible repeat (first | refine blk_drewN ?_ _ | refine blk_drew ?_ | refine blk_alloc ?_ _)); exact BK323.out⟩, ⟨by repeat (first | (with_reducible first | exact HB.out | apply below_alloc | apply pw_below_drewN | apply below_drew1 | refine below_set ?_ GE322.out | refine below_set ?_ GE323.out) | exact HB.out)⟩⟩
     case round =>
      clear H'
      try clear c1
      try clear c2
      try clear p2
      try clear c3
      try clear p3
      try clear q3
      try clear hx3
      try clear c4
      try clear c5
      try clear c6
      try clear p6
      try clear c7
      try clear c8
      try clear c18
      try clear c22
      try clear c22b0
      try clear c22b1
      try clear c22b2
      try clear c23
      try clear c26
      try clear c30
      try clear p31
      try clear q31
      try clear hx31
      try clear c33
      try clear c33b0
      try clear c34
      try clear c35
      try clear c35b0
      try clear c36
      try clear c36b0
      try clear c37
      try clear c37b0
      try clear c38
      try clear c42
      try clear c55
      try clear c59
      try clear c59b0
      try clear c59b1
      try clear c59b2
      try clear c60
      try clear c63
      try clear p64
      try clear c67
      try clear hcz19_0
      try clear hcz19_1
      try clear hcz21_0
      try clear hcz21_1
      try clear hcz24_0
      try clear hcz24_1
      try clear hcz25_0
      try clear hcz25_1
      try clear hcz27_0
      try clear hcz27_1
      try clear hcz28_0
      try clear hcz28_1
      try clear hcz31_0
      try clear hcz31_1
      try clear hcz32_0
      try clear hcz32_1
      try clear hcz39_0
      try clear hcz39_1
      try clear hcz40_0
      try clear hcz40_1
      try clear hcz43_0
      try clear hcz43_1
      try clear hcz44_0
      try clear hcz44_1
      try clear hcz56_0
      try clear hcz56_1
      try clear hcz58_0
      try clear hcz58_1
      try clear hcz61_0
      try clear hcz61_1
      try clear hcz62_0
      try clear hcz62_1
      try clear hcz64_0
      try clear hcz64_1
      try clear hcz65_0
      try clear hcz65_1
      try clear hcz68_0
      try clear hcz68_1
      try clear hcz69_0
      try clear hcz69_1
      try clear hfz19_0
      try clear hfz19_1
      try clear hfz21_0
      try clear hfz21_1
      try clear hfz24_0
      try clear hfz24_1
      try clear hfz25_0
      try clear hfz25_1
      try clear hfz27_0
      try clear hfz27_1
      try clear hfz28_0
      try clear hfz28_1
      try clear hfz31_0
      try clear hfz31_1
      try clear hfz32_0
      try clear hfz32_1
      try clear hfz39_0
      try clear hfz39_1
      try clear hfz40_0
      try clear hfz40_1
      try clear hfz43_0
      try clear hfz43_1
      try clear hfz44_0
      try clear hfz44_1
      try clear hfz56_0
      try clear hfz56_1
      try clear hfz58_0
      try clear hfz58_1
      try clear hfz61_0
      try clear hfz61_1
      try clear hfz62_0
      try clear hfz62_1
      try clear hfz64_0
      try clear hfz64_1
      try clear hfz65_0
      try clear hfz65_1
      try clear hfz68_0
      try clear hfz68_1
      try clear hfz69_0
      try clear hfz69_1
      try clear hx311_0
      try clear hx312_0
      try clear p2
      try clear p3
      try clear p31
      try clear p311
      try clear p312
      try clear p6
      try clear p64
      try clear q3
      try clear q31
      try clear q311
      try clear q312
      obtain ⟨x13_2, x47_2, rfl, rfl, HA, HK2, HO_323000, HO_324000, BK322, BK323, HB⟩ := hrel
      cases gk with
      | zero => exact absurd HA.out (by simp [transposallaw08_CalendarSames.l1])
      | succ k2 =>
       have H := HA.out
       clear HA
       simp only [transposallaw08_CalendarSames.l1] at H
       by_cases c70 : x47_2 < ji66
       ·rw [if_pos c70] at H
        have c70b0 : decide (x47_2 < ji66) = true := decide_eq_true c70
        clear c70
        by_cases c71 : x13_2 = true
        ·subst c71
         have H1 : (if 0 ≤ x47_2 then (if x47_2 < (t314.length : Int) then (if x47_2 < (t318.length : Int) then (transposallaw08_CalendarSames.l1 k2 ((rd t314 x47_2) == (rd t318 x47_2)) ji66 (wrap64 (x47_2 + 1)) t314 t317 t318 t321) else (none)) else (none)) else (none)) = some r := by rw [if_pos rfl] at H; exact H
         clear H
         have H := H1
         clear H1
         by_cases c72 : 0 ≤ x47_2
         ·rw [if_pos c72] at H
          have c72b0 : decide (0 ≤ x47_2) = true := decide_eq_true c72
          clear c72
          by_cases c73 : x47_2 < (t314.length : Int)
          ·rw [if_pos c73] at H
           have c73b0 : decide (x47_2 < (t314.length : Int)) = true := decide_eq_true c73
           clear c73
           by_cases c74 : x47_2 < (t318.length : Int)
           ·rw [if_pos c74] at H
            have c74b0 : decide (x47_2 < (t318.length : Int)) = true := decide_eq_true c74
            clear c74
            have H' := Aside0.mk H
            clear H
            have hnb75 := NB322_323.out
            have hnc75 := NB323_322.out
            have hcz76_0 : wr.cell? ⟨gb322, 0, none⟩ = some (.slice Ao54 t314.length co54) := (blk_cell BK322.out 0).trans rfl
            have hcz76_1 : wr.cell? ⟨gb322, 1, none⟩ = some (.int .i32 t317) := (blk_cell BK322.out 1).trans rfl
            have hfz76_0 := blk_frozen BK322.out 0
            have hfz76_1 := blk_frozen BK322.out 1
            have p324 : 0 ≤ (x47_2 : Int) := of_decide_eq_true (by first | (with_reducible assumption) | assumption)
            have q324 : x47_2 < (t314.length : Int) := of_decide_eq_true (by first | (with_reducible assumption) | assumption)
            obtain ⟨ad324, e324, hx324_0⟩ := Kd.at_int (Kd.R_reads' HO_323000.out).2.2 x47_2 p324 q324
            cases e324
            replace p324 := eq_true p324
            replace q324 := eq_true q324
            have hcz77_0 : wr.cell? ⟨gb323, 0, none⟩ = some (.slice Ao57 t318.length co57) := (blk_cell BK323.out 0).trans rfl
            have hcz77_1 : wr.cell? ⟨gb323, 1, none⟩ = some (.int .i32 t321) := (blk_cell BK323.out 1).trans rfl
            have hfz77_0 := blk_frozen BK323.out 0
            have hfz77_1 := blk_frozen BK323.out 1
            have p325 : 0 ≤ (x47_2 : Int) := of_decide_eq_true (by first | (with_reducible assumption) | assumption)
            have q325 : x47_2 < (t318.length : Int) := of_decide_eq_true (by first | (with_reducible assumption) | assumption)
            obtain ⟨ad325, e325, hx325_0⟩ := Kd.at_int (Kd.R_reads' HO_324000.out).2.2 x47_2 p325 q325
            cases e325
            replace p325 := eq_true p325
            replace q325 := eq_true q325
            go_wp2
            repeat (go_quiet (fail); try go_wp2)
            go_roundg k2
            case measure => have := HJ47.out; have := HK2.out; omega
            case rel => exact ⟨(((rd t314 x47_2) == (rd t318 x47_2))), (wrap64 (x47_2 + 1)), (by first | rfl | (simp; done) | (simp [*]; done)), (by first | rfl | (simp; done) | (simp [*]; done)), H', ⟨by have := HJ47.out; have := HK2.out; omega⟩, ⟨by (with_reducible repeat (first | apply Kd.R_alloc | apply Kd.R_drewN | apply Kd.R_drew)); exact HO_323000.out⟩, ⟨by (with_reducible repeat (first | apply Kd.R_alloc | apply Kd.R_drewN | apply Kd.R_drew)); exact HO_324000.out⟩, ⟨by (with_reducible repeat (first | refine blk_drewN ?_ _ | refine blk_drew ?_ | refine blk_alloc ?_ _)); exact BK322.out⟩, ⟨by (with_reducible repeat (first | refine blk_drewN ?_ _ | refine blk_drew ?_ | refine blk_alloc ?_ _)); exact BK323.out⟩, ⟨by repeat (first | (with_reducible first | exact HB.out | apply below_alloc | apply pw_below_drewN | apply below_drew1 | refine below_set ?_ GE322.out | refine below_set ?_ GE323.out) | exact HB.out)⟩⟩
           ·rw [if_neg c74] at H
            exact absurd H (by simp)
          ·rw [if_neg c73] at H
           exact absurd H (by simp)
         ·rw [if_neg c72] at H
          exact absurd H (by simp)
        ·replace c71 := Bool.eq_false_iff.mpr c71
         subst c71
         have H1 : (transposallaw08_CalendarSames.l1 k2 false ji66 (wrap64 (x47_2 + 1)) t314 t317 t318 t321) = some r := by rw [if_neg (show ¬ (false = true) by decide)] at H; exact H
         clear H
         have H := H1
         clear H1
         have H' := Aside0.mk H
         clear H
         go_wp2
         repeat (go_quiet (fail); try go_wp2)
         go_roundg k2
         case measure => have := HJ47.out; have := HK2.out; omega
         case rel => exact ⟨(false), (wrap64 (x47_2 + 1)), (by first | rfl | (simp; done) | (simp [*]; done)), (by first | rfl | (simp; done) | (simp [*]; done)), H', ⟨by have := HJ47.out; have := HK2.out; omega⟩, ⟨by (with_reducible repeat (first | apply Kd.R_alloc | apply Kd.R_drewN | apply Kd.R_drew)); exact HO_323000.out⟩, ⟨by (with_reducible repeat (first | apply Kd.R_alloc | apply Kd.R_drewN | apply Kd.R_drew)); exact HO_324000.out⟩, ⟨by (with_reducible repeat (first | refine blk_drewN ?_ _ | refine blk_drew ?_ | refine blk_alloc ?_ _)); exact BK322.out⟩, ⟨by (with_reducible repeat (first | refine blk_drewN ?_ _ | refine blk_drew ?_ | refine blk_alloc ?_ _)); exact BK323.out⟩, ⟨by repeat (first | (with_reducible first | exact HB.out | apply below_alloc | apply pw_below_drewN | apply below_drew1 | refine below_set ?_ GE322.out | refine below_set ?_ GE323.out) | exact HB.out)⟩⟩
       ·rw [if_neg c70] at H
        have c70b0 : decide (x47_2 < ji66) = false := decide_eq_false c70
        clear c70
        replace H := Option.bind_eq_some_iff.mp H
        obtain ⟨t326, A780, H⟩ := H
        replace H : (some (t326 == x13_2)) = some r := H
        have A78 := Aside0.mk A780
        clear A780
        obtain rfl := Option.some.inj H
        have hnb79 := NB322_323.out
        have hnc79 := NB323_322.out
        have hcz80_0 : wr.cell? ⟨gb322, 0, none⟩ = some (.slice Ao54 t314.length co54) := (blk_cell BK322.out 0).trans rfl
        have hcz80_1 : wr.cell? ⟨gb322, 1, none⟩ = some (.int .i32 t317) := (blk_cell BK322.out 1).trans rfl
        have hfz80_0 := blk_frozen BK322.out 0
        have hfz80_1 := blk_frozen BK322.out 1
        have hcz81_0 : wr.cell? ⟨gb323, 0, none⟩ = some (.slice Ao57 t318.length co57) := (blk_cell BK323.out 0).trans rfl
        have hcz81_1 : wr.cell? ⟨gb323, 1, none⟩ = some (.int .i32 t321) := (blk_cell BK323.out 1).trans rfl
        have hfz81_0 := blk_frozen BK323.out 0
        have hfz81_1 := blk_frozen BK323.out 1
        go_wp2_with (first | (go_at_call 14; (with_reducible refine (calendar_Same.calls k2 _ _ t314 t317 _ _ t318 t321 t326 _ ?side1 ?side2 ?side3 ?side4 A78.out).mono ?_); (case side1 => repeat (first | exact (Kd.R_reads' HO_323000.out).2.2 | (with_reducible refine Kd.C_alloc ?_ _) | (with_reducible refine Kd.C_drewN ?_ _) | (with_reducible refine Kd.C_drew ?_))); (case side2 => exact (Kd.R_reads' HO_323000.out).2.1); (case side3 => repeat (first | exact (Kd.R_reads' HO_324000.out).2.2 | (with_reducible refine Kd.C_alloc ?_ _) | (with_reducible refine Kd.C_drewN ?_ _) | (with_reducible refine Kd.C_drew ?_))); (case side4 => exact (Kd.R_reads' HO_324000.out).2.1); rintro e w82 ⟨rfl, hb⟩; have n0_ := Aside0.mk (Kd.R_below (by (with_reducible repeat (first | apply Kd.R_alloc | apply Kd.R_drewN | apply Kd.R_drew)); exact HO_323000.out) hb); have n1_ := Aside0.mk (Kd.R_below (by (with_reducible repeat (first | apply Kd.R_alloc | apply Kd.R_drewN | apply Kd.R_drew)); exact HO_324000.out) hb); have n2_ := Aside0.mk (blk_below (g := gb322) (o := .cells #[.slice Ao54 t314.length co54, .int .i32 t317] 28 (0, 0)) (by (with_reducible repeat (first | refine blk_drewN ?_ _ | refine blk_drew ?_ | refine blk_alloc ?_ _)); exact BK322.out) hb); have n3_ := Aside0.mk (blk_below (g := gb323) (o := .cells #[.slice Ao57 t318.length co57, .int .i32 t321] 28 (0, 0)) (by (with_reducible repeat (first | refine blk_drewN ?_ _ | refine blk_drew ?_ | refine blk_alloc ?_ _)); exact BK323.out) hb); have n4_ := Aside0.mk (below_step (by repeat (first | (with_reducible first | exact HB.out | apply below_alloc | apply pw_below_drewN | apply below_drew1 | refine below_set ?_ GE322.out | refine below_set ?_ GE323.out) | exact HB.out)) hb); clear HO_323000; clear HO_324000; clear BK322; clear BK323; clear HB; have HO_323000 := n0_; have HO_324000 := n1_; have BK322 := n2_; have BK323 := n3_; have HB := n4_; clear n0_ n1_ n2_ n3_ n4_; (try clear hb); (try clear hb2); (try clear hk); (try clear hi)))
        repeat (go_quiet (first | ((fail_if_success (have z_ := USA78_)); go_at_call 14; (with_reducible refine (calendar_Same.calls k2 _ _ t314 t317 _ _ t318 t321 t326 _ ?side1 ?side2 ?side3 ?side4 A78.out).mono ?_); (case side1 => repeat (first | exact (Kd.R_reads' HO_323000.out).2.2 | (with_reducible refine Kd.C_alloc ?_ _) | (with_reducible refine Kd.C_drewN ?_ _) | (with_reducible refine Kd.C_drew ?_))); (case side2 => exact (Kd.R_reads' HO_323000.out).2.1); (case side3 => repeat (first | exact (Kd.R_reads' HO_324000.out).2.2 | (with_reducible refine Kd.C_alloc ?_ _) | (with_reducible refine Kd.C_drewN ?_ _) | (with_reducible refine Kd.C_drew ?_))); (case side4 => exact (Kd.R_reads' HO_324000.out).2.1); rintro e w82 ⟨rfl, hb⟩; have USA78_ := Aside0.mk (rfl : (0 : Nat) = 0); have n0_ := Aside0.mk (Kd.R_below (by (with_reducible repeat (first | apply Kd.R_alloc | apply Kd.R_drewN | apply Kd.R_drew)); exact HO_323000.out) hb); have n1_ := Aside0.mk (Kd.R_below (by (with_reducible repeat (first | apply Kd.R_alloc | apply Kd.R_drewN | apply Kd.R_drew)); exact HO_324000.out) hb); have n2_ := Aside0.mk (blk_below (g := gb322) (o := .cells #[.slice Ao54 t314.length co54, .int .i32 t317] 28 (0, 0)) (by (with_reducible repeat (first | refine blk_drewN ?_ _ | refine blk_drew ?_ | refine blk_alloc ?_ _)); exact BK322.out) hb); have n3_ := Aside0.mk (blk_below (g := gb323) (o := .cells #[.slice Ao57 t318.length co57, .int .i32 t321] 28 (0, 0)) (by (with_reducible repeat (first | refine blk_drewN ?_ _ | refine blk_drew ?_ | refine blk_alloc ?_ _)); exact BK323.out) hb); have n4_ := Aside0.mk (below_step (by repeat (first | (with_reducible first | exact HB.out | apply below_alloc | apply pw_below_drewN | apply below_drew1 | refine below_set ?_ GE322.out | refine below_set ?_ GE323.out) | exact HB.out)) hb); clear HO_323000; clear HO_324000; clear BK322; clear BK323; clear HB; have HO_323000 := n0_; have HO_324000 := n1_; have BK322 := n2_; have BK323 := n3_; have HB := n4_; clear n0_ n1_ n2_ n3_ n4_; (try clear hb); (try clear hb2); (try clear hk); (try clear hi))); try go_wp2_with (first | ((fail_if_success (have z_ := USA78_)); go_at_call 14; (with_reducible refine (calendar_Same.calls k2 _ _ t314 t317 _ _ t318 t321 t326 _ ?side1 ?side2 ?side3 ?side4 A78.out).mono ?_); (case side1 => repeat (first | exact (Kd.R_reads' HO_323000.out).2.2 | (with_reducible refine Kd.C_alloc ?_ _) | (with_reducible refine Kd.C_drewN ?_ _) | (with_reducible refine Kd.C_drew ?_))); (case side2 => exact (Kd.R_reads' HO_323000.out).2.1); (case side3 => repeat (first | exact (Kd.R_reads' HO_324000.out).2.2 | (with_reducible refine Kd.C_alloc ?_ _) | (with_reducible refine Kd.C_drewN ?_ _) | (with_reducible refine Kd.C_drew ?_))); (case side4 => exact (Kd.R_reads' HO_324000.out).2.1); rintro e w82 ⟨rfl, hb⟩; have USA78_ := Aside0.mk (rfl : (0 : Nat) = 0); have n0_ := Aside0.mk (Kd.R_below (by (with_reducible repeat (first | apply Kd.R_alloc | apply Kd.R_drewN | apply Kd.R_drew)); exact HO_323000.out) hb); have n1_ := Aside0.mk (Kd.R_below (by (with_reducible repeat (first | apply Kd.R_alloc | apply Kd.R_drewN | apply Kd.R_drew)); exact HO_324000.out) hb); have n2_ := Aside0.mk (blk_below (g := gb322) (o := .cells #[.slice Ao54 t314.length co54, .int .i32 t317] 28 (0, 0)) (by (with_reducible repeat (first | refine blk_drewN ?_ _ | refine blk_drew ?_ | refine blk_alloc ?_ _)); exact BK322.out) hb); have n3_ := Aside0.mk (blk_below (g := gb323) (o := .cells #[.slice Ao57 t318.length co57, .int .i32 t321] 28 (0, 0)) (by (with_reducible repeat (first | refine blk_drewN ?_ _ | refine blk_drew ?_ | refine blk_alloc ?_ _)); exact BK323.out) hb); have n4_ := Aside0.mk (below_step (by repeat (first | (with_reducible first | exact HB.out | apply below_alloc | apply pw_below_drewN | apply below_drew1 | refine below_set ?_ GE322.out | refine below_set ?_ GE323.out) | exact HB.out)) hb); clear HO_323000; clear HO_324000; clear BK322; clear BK323; clear HB; have HO_323000 := n0_; have HO_324000 := n1_; have BK322 := n2_; have BK323 := n3_; have HB := n4_; clear n0_ n1_ n2_ n3_ n4_; (try clear hb); (try clear hb2); (try clear hk); (try clear hi))))
        go_ret
        exact ⟨by first | rfl | (simp [errW_none, errW_some] <;> rfl) | (simp only [← hji66]; first | rfl | (simp [errW_none, errW_some] <;> rfl)) | (simp [*, errW_none, errW_some] <;> rfl), by repeat (first | (with_reducible first | exact HB.out | apply below_alloc | apply pw_below_drewN | apply below_drew1 | refine below_set ?_ GE322.out | refine below_set ?_ GE323.out) | exact HB.out)⟩
 ·replace c7 := Bool.eq_false_iff.mpr c7
  subst c7
  have H1 : (some false) = some r := by rw [if_neg (show ¬ (false = true) by decide)] at H; exact H
  clear H
  have H := H1
  clear H1
  obtain rfl := Option.some.inj H
  go_enter Tryz.func3, Tryz.ntmps3
  go_wp2_with (first | (go_at_call 12; (with_reducible refine (transposallaw08_Awake.calls k  false _ ?side1 A6.out).mono ?_); (case side1 => exact Glob.below (by repeat (first | (with_reducible first | exact HB.out | apply below_alloc | apply pw_below_drewN | apply below_drew1) | exact HB.out)) HG.out); rintro e w83 ⟨rfl, hb⟩; have n0_ := Aside0.mk (below_step (by repeat (first | (with_reducible first | exact HB.out | apply below_alloc | apply pw_below_drewN | apply below_drew1) | exact HB.out)) hb); clear HB; have HB := n0_; clear n0_; (try clear hb); (try clear hb2); (try clear hk); (try clear hi)))
  repeat (go_quiet (first | ((fail_if_success (have z_ := USA6_)); go_at_call 12; (with_reducible refine (transposallaw08_Awake.calls k  false _ ?side1 A6.out).mono ?_); (case side1 => exact Glob.below (by repeat (first | (with_reducible first | exact HB.out | apply below_alloc | apply pw_below_drewN | apply below_drew1) | exact HB.out)) HG.out); rintro e w83 ⟨rfl, hb⟩; have USA6_ := Aside0.mk (rfl : (0 : Nat) = 0); have n0_ := Aside0.mk (below_step (by repeat (first | (with_reducible first | exact HB.out | apply below_alloc | apply pw_below_drewN | apply below_drew1) | exact HB.out)) hb); clear HB; have HB := n0_; clear n0_; (try clear hb); (try clear hb2); (try clear hk); (try clear hi))); try go_wp2_with (first | ((fail_if_success (have z_ := USA6_)); go_at_call 12; (with_reducible refine (transposallaw08_Awake.calls k  false _ ?side1 A6.out).mono ?_); (case side1 => exact Glob.below (by repeat (first | (with_reducible first | exact HB.out | apply below_alloc | apply pw_below_drewN | apply below_drew1) | exact HB.out)) HG.out); rintro e w83 ⟨rfl, hb⟩; have USA6_ := Aside0.mk (rfl : (0 : Nat) = 0); have n0_ := Aside0.mk (below_step (by repeat (first | (with_reducible first | exact HB.out | apply below_alloc | apply pw_below_drewN | apply below_drew1) | exact HB.out)) hb); clear HB; have HB := n0_; clear n0_; (try clear hb); (try clear hb2); (try clear hk); (try clear hi))))
  go_ret
  exact ⟨by first | rfl | (simp [errW_none, errW_some] <;> rfl) | (simp [*, errW_none, errW_some] <;> rfl), by repeat (first | (with_reducible first | exact HB.out | apply below_alloc | apply pw_below_drewN | apply below_drew1) | exact HB.out)⟩

/-- THE ONE PURE STATEMENT of transposallaw08_CalendarSames: yours. -/
def transposallaw08_CalendarSames.Pure : Prop := ∀ (a0 : Int) (a1 : Int) (l2 : List Int) (l3 : List Int) (a4 : Bool), (Lit.int .i16 a0).wf = true → (Lit.int .i16 a1).wf = true → l2.length ≤ maxLen → l2.length * 1 ≤ 140737488351232 → (∀ x ∈ l2, (Lit.int .u8 x).wf = true) → l3.length ≤ maxLen → l3.length * 1 ≤ 140737488351232 → (∀ x ∈ l3, (Lit.int .u8 x).wf = true) → ∃ k, transposallaw08_CalendarSames.f k a0 a1 l2 l3 a4 = some true

end Go.Proofs.YtfpfilmdlconhaaGreatDoor.XA
