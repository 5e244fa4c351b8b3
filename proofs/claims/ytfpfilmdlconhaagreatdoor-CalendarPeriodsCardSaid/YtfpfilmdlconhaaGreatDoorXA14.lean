-- Written by a program of this session's (wip/xp) out of the translation; given functions by hand.
import Derived.Test.YtfpfilmdlconhaaGreatDoorXA0
import Derived.Test.YtfpfilmdlconhaaGreatDoorXA2
import Derived.Test.YtfpfilmdlconhaaGreatDoorXA9
import Derived.Test.YtfpfilmdlconhaaGreatDoorXA13
namespace Go.Proofs.YtfpfilmdlconhaaGreatDoor.XA
open Go.RowKit Go.Proofs.YtfpfilmdlconhaaGreatDoorW.PrintWords Go.Proofs.YtfpfilmdlconhaaGreatDoorW.PrintLast Go.Proofs.YtfpfilmdlconhaaGreatDoorW.PrintMore
attribute [local go_sem] max2_int min2_int max_two min_two max_three min_three max_four min_four   -- for this text's walks alone
set_option linter.unusedVariables false
set_option linter.unusedSimpArgs false

/-! ### transposallaw08_CalendarPeriods: function 5 -/
def transposallaw08_CalendarPeriods.l0 : Nat → List Int → Int → Int → List Int → Int → Option (Bool)
 | 0, _, _, _, _, _ => none
 | k + 1, x40, x41, x42, x362000, x362001 => if x42 < x41 then (if 0 ≤ x42 then (if x42 < (x40.length : Int) then ((transposallaw08_Period.f k x362000 x362001 (rd x40 x42)).bind fun t369 => ((calendar_Calendar_Period.f k x362000 x362001 (rd x40 x42)).bind fun bt370 => (if (bt370.2 != (decide (t369 ≥ 0))) = true then (some false) else (if bt370.1 = (mx t369 0) then (transposallaw08_CalendarPeriods.l0 k x40 x41 (wrap64 (x42 + 1)) x362000 x362001) else (some false))))) else (none)) else (none)) else ((calendar_Calendar_Check.f k x362000 x362001).bind fun t367 => (some (t367 == 0)))
def transposallaw08_CalendarPeriods.f (k : Nat) (a0 : Int) (l1 : List Int) (a2 : Int) : Option (Bool) := (transposallaw08_Awake.f k).bind fun t356 => (if t356 = true then ((transposallaw08_Make.f k a0 l1).bind fun bt357 => (if 0 < (bt357.1.length : Int) then ((some (([wrap32 (a2), wrap32 ((wrap32 (a0)) + (wrap32 (Int.tmod a2 200))), bt357.2, wrap32 (bt357.2 - 1), rd bt357.1 0, wrap32 ((rd bt357.1 0) - 1)] : List Int) : List Int)).bind fun y364 => (transposallaw08_CalendarPeriods.l0 k y364 (y364.length : Int) 0 bt357.1 bt357.2)) else (none))) else (some false))
theorem transposallaw08_CalendarPeriods.mono_l : ∀ k, (∀ y0 y1 y2 y3 y4, LeO (transposallaw08_CalendarPeriods.l0 k y0 y1 y2 y3 y4) (transposallaw08_CalendarPeriods.l0 (k + 1) y0 y1 y2 y3 y4))
 | 0 => fun _ _ _ _ _ r h => by simp [transposallaw08_CalendarPeriods.l0] at h
 | k + 1 => by
  have ih0 := transposallaw08_CalendarPeriods.mono_l k
  ·intro y0 y1 y2 y3 y4
   unfold transposallaw08_CalendarPeriods.l0
   repeat' first
   | (with_reducible exact ih0 _ _ _ _ _)
   | (with_reducible exact calendar_Calendar_Check.mono _ _ _)
   | (with_reducible exact calendar_Calendar_Period.mono _ _ _ _)
   | (with_reducible exact transposallaw08_Awake.mono _)
   | (with_reducible exact transposallaw08_Make.mono _ _ _)
   | (with_reducible exact transposallaw08_Period.mono _ _ _ _)
   | (with_reducible exact LeO.refl _)
   | (with_reducible exact LeO.none _)
   | (with_reducible refine LeO.ite ?_ ?_)
   | (with_reducible refine LeO.bind ?_ (fun _ => ?_))
   | exact ih0 _ _ _ _ _
   | exact calendar_Calendar_Check.mono _ _ _
   | exact calendar_Calendar_Period.mono _ _ _ _
   | exact transposallaw08_Awake.mono _
   | exact transposallaw08_Make.mono _ _ _
   | exact transposallaw08_Period.mono _ _ _ _
   | exact LeO.none _
   | refine LeO.ite ?_ ?_
   | refine LeO.bind ?_ (fun _ => ?_)
theorem transposallaw08_CalendarPeriods.mono : ∀ a0 a1 a2 k, LeO (transposallaw08_CalendarPeriods.f k a0 a1 a2) (transposallaw08_CalendarPeriods.f (k + 1) a0 a1 a2) := by
 intro a0 a1 a2 k
 have ih0 := transposallaw08_CalendarPeriods.mono_l k
 unfold transposallaw08_CalendarPeriods.f
 repeat' first
   | (with_reducible exact ih0 _ _ _ _ _)
   | (with_reducible exact calendar_Calendar_Check.mono _ _ _)
   | (with_reducible exact calendar_Calendar_Period.mono _ _ _ _)
   | (with_reducible exact transposallaw08_Awake.mono _)
   | (with_reducible exact transposallaw08_Make.mono _ _ _)
   | (with_reducible exact transposallaw08_Period.mono _ _ _ _)
   | (with_reducible exact LeO.refl _)
   | (with_reducible exact LeO.none _)
   | (with_reducible refine LeO.ite ?_ ?_)
   | (with_reducible refine LeO.bind ?_ (fun _ => ?_))
   | exact ih0 _ _ _ _ _
   | exact calendar_Calendar_Check.mono _ _ _
   | exact calendar_Calendar_Period.mono _ _ _ _
   | exact transposallaw08_Awake.mono _
   | exact transposallaw08_Make.mono _ _ _
   | exact transposallaw08_Period.mono _ _ _ _
   | exact LeO.none _
   | refine LeO.ite ?_ ?_
   | refine LeO.bind ?_ (fun _ => ?_)
def transposallaw08_CalendarPeriods.T4 : Bool × List (List Nat × List Nat) := (true, [([], []), ([0], [0]), ([], []), ([2], [2]), ([], []), ([4], [4]), ([5], [5]), ([3, 6], [3, 6]), ([], []), ([8], [8]), ([], []), ([10], [10]), ([11], [11]), ([], []), ([13], [13]), ([14], [14]), ([15], [15]), ([], []), ([17], [17]), ([18], [18]), ([19], [19]), ([20], [20]), ([1, 7, 9, 12, 16, 21], [1, 7, 9, 12, 16, 21]), ([22], [22]), ([], [])])
def transposallaw08_CalendarPeriods.B4 : List Nat := [0, 1, 0, 4, 0, 16, 48, 124, 0, 256, 0, 1024, 3072, 0, 8192, 24576, 57344, 0, 131072, 393216, 917504, 1966080, 4194303, 8388607, 0]
theorem transposallaw08_CalendarPeriods.tab4 : rtab .any (opsOf Tryz.f5 4) = transposallaw08_CalendarPeriods.T4 := by kernel_rfl
theorem transposallaw08_CalendarPeriods.bits4 : waitsOk transposallaw08_CalendarPeriods.T4.2 transposallaw08_CalendarPeriods.B4 = true := by kernel_rfl
set_option maxHeartbeats 8000000 in
set_option maxRecDepth 100000 in
theorem transposallaw08_CalendarPeriods.calls (k : Nat) (a0 : Int) (A1 : Option Addr) (c1 : Nat) (l1 : List Int) (a2 : Int) (r : Bool) (w : World) (hr1 : Kd.C (Kd.int .u8) w A1 l1.length l1) (hc1 : l1.length ≤ c1) (hG : Glob w) (h : transposallaw08_CalendarPeriods.f k a0 l1 a2 = some r) :
  Calls Tryz.prog 5 #[.int .i16 a0, .slice A1 l1.length c1, .int .i16 a2] w fun e w' => e = .returned (.bool r) ∧ Below w.heap.size w w' := by
 have hu28 := Tryz.underlying28
 have HG := Aside0.mk hG
 clear hG
 have HR1 := Aside0.mk hr1
 have HC1 := Aside0.mk hc1
 clear hr1 hc1
 have HB := Aside0.mk (Below.refl w.heap.size w)
 have H : ((transposallaw08_Awake.f k).bind fun t356 => (if t356 = true then ((transposallaw08_Make.f k a0 l1).bind fun bt357 => (if 0 < (bt357.1.length : Int) then ((some (([wrap32 (a2), wrap32 ((wrap32 (a0)) + (wrap32 (Int.tmod a2 200))), bt357.2, wrap32 (bt357.2 - 1), rd bt357.1 0, wrap32 ((rd bt357.1 0) - 1)] : List Int) : List Int)).bind fun y364 => (transposallaw08_CalendarPeriods.l0 k y364 (y364.length : Int) 0 bt357.1 bt357.2)) else (none))) else (some false))) = some r := h
 clear h
 replace H := Option.bind_eq_some_iff.mp H
 obtain ⟨t356, A40, H⟩ := H
 replace H : (if t356 = true then ((transposallaw08_Make.f k a0 l1).bind fun bt357 => (if 0 < (bt357.1.length : Int) then ((some (([wrap32 (a2), wrap32 ((wrap32 (a0)) + (wrap32 (Int.tmod a2 200))), bt357.2, wrap32 (bt357.2 - 1), rd bt357.1 0, wrap32 ((rd bt357.1 0) - 1)] : List Int) : List Int)).bind fun y364 => (transposallaw08_CalendarPeriods.l0 k y364 (y364.length : Int) 0 bt357.1 bt357.2)) else (none))) else (some false)) = some r := H
 have A4 := Aside0.mk A40
 clear A40
 by_cases c5 : t356 = true
 ·subst c5
  have H1 : ((transposallaw08_Make.f k a0 l1).bind fun bt357 => (if 0 < (bt357.1.length : Int) then ((some (([wrap32 (a2), wrap32 ((wrap32 (a0)) + (wrap32 (Int.tmod a2 200))), bt357.2, wrap32 (bt357.2 - 1), rd bt357.1 0, wrap32 ((rd bt357.1 0) - 1)] : List Int) : List Int)).bind fun y364 => (transposallaw08_CalendarPeriods.l0 k y364 (y364.length : Int) 0 bt357.1 bt357.2)) else (none))) = some r := by rw [if_pos rfl] at H; exact H
  clear H
  have H := H1
  clear H1
  replace H := Option.bind_eq_some_iff.mp H
  obtain ⟨⟨t357, t360⟩, A60, H⟩ := H
  replace H : (if 0 < (t357.length : Int) then ((some (([wrap32 (a2), wrap32 ((wrap32 (a0)) + (wrap32 (Int.tmod a2 200))), t360, wrap32 (t360 - 1), rd t357 0, wrap32 ((rd t357 0) - 1)] : List Int) : List Int)).bind fun y364 => (transposallaw08_CalendarPeriods.l0 k y364 (y364.length : Int) 0 t357 t360)) else (none)) = some r := H
  have A6 := Aside0.mk A60
  clear A60
  by_cases c7 : 0 < (t357.length : Int)
  ·rw [if_pos c7] at H
   have c7b0 : decide (0 < (t357.length : Int)) = true := decide_eq_true c7
   have c7b1 : decide (0 < t357.length) = true := decide_eq_true (by omega)
   clear c7
   obtain ⟨y364, hy364⟩ : ∃ y_ : List Int, y_ = (([wrap32 (a2), wrap32 ((wrap32 (a0)) + (wrap32 (Int.tmod a2 200))), t360, wrap32 (t360 - 1), rd t357 0, wrap32 ((rd t357 0) - 1)] : List Int)) := ⟨_, rfl⟩
   replace H : (transposallaw08_CalendarPeriods.l0 k y364 (y364.length : Int) 0 t357 t360) = some r := by first | (rw [hy364]; with_reducible exact H) | (have H2_ := (Option.bind_some _ _).symm.trans H; rw [hy364]; with_reducible exact H2_) | (have H2_ := (Option.bind_some _ _).symm.trans H; with_reducible exact H2_) | with_reducible exact H | (rw [hy364]; exact H) | exact H
   have Ny364 := Aside0.mk hy364
   clear hy364
   have H' := Aside0.mk H
   clear H
   go_enter Tryz.func5, Tryz.ntmps5
   try go_wp2_with (first | ((with_reducible refine gate_callee (f := 12) rfl ?_); refine goesL_ (some 13) rfl rfl Tryz.func12 (by kernel_rfl) rfl #[] rfl (by (try simp only [List.map_toArray, List.map_cons, List.map_nil]); first | done | rfl | (simp only [List.length_drop, List.length_take]; rfl)) ?_; (with_reducible refine (transposallaw08_Awake.calls k  true _ ?side1 A4.out).mono ?_); (case side1 => exact Glob.below (by repeat (first | (with_reducible first | exact HB.out | apply below_alloc | apply pw_below_drewN | apply below_drew1) | exact HB.out)) HG.out); rintro e w8 ⟨rfl, hb⟩; refine ⟨_, rfl, ?_⟩; have n0_ := Aside0.mk (below_step (by repeat (first | (with_reducible first | exact HB.out | apply below_alloc | apply pw_below_drewN | apply below_drew1) | exact HB.out)) hb); clear HB; have HB := n0_; clear n0_; (try clear hb); (try clear hb2); (try clear hk); (try clear hi)) | ((with_reducible refine gate_callee (f := 13) rfl ?_); refine goesL_ (some 17) rfl rfl Tryz.func13 (by kernel_rfl) rfl #[.int .i16 a0, .slice A1 l1.length c1] rfl (by (try simp only [List.map_toArray, List.map_cons, List.map_nil]); first | done | rfl | (simp only [List.length_drop, List.length_take]; rfl)) ?_; (with_reducible refine (transposallaw08_Make.calls k a0 _ _ l1 t357 t360 _ ?side1 ?side2 A6.out).mono ?_); (case side1 => repeat (first | exact (Kd.C_below HR1.out HB.out) | (with_reducible refine Kd.C_alloc ?_ _) | (with_reducible refine Kd.C_drewN ?_ _) | (with_reducible refine Kd.C_drew ?_))); (case side2 => exact HC1.out); rintro e w9 ⟨v358, rfl, ho0, hb⟩; refine ⟨_, rfl, ?_⟩; have n0_ := Aside0.mk (Kd.R_lower ho0 (below_size (by repeat (first | (with_reducible first | exact HB.out | apply below_alloc | apply pw_below_drewN | apply below_drew1) | exact HB.out)))); have n1_ := Aside0.mk (below_step (by repeat (first | (with_reducible first | exact HB.out | apply below_alloc | apply pw_below_drewN | apply below_drew1) | exact HB.out)) hb); clear HB; have HO359 := n0_; have HB := n1_; clear n0_ n1_; (try clear hb); (try clear hb2); (try clear hk); (try clear hi); (try clear ho0)) | ((with_reducible refine gate_dst (N := 7) rfl ?_); (try (refine gate_guard (by rfl) ?_; dsimp only)); refine box_event ?hg (N := 7) ?hd (cs := #[.slice none 0 0, .int .i32 0]) (t := 28) ?hr ?_; (case hd => rfl); (case hg => rfl); (case hr => first | (go_simp; done) | (go_simp; rfl)); intro gb361 hg w10 hbox hb; have n0_ := Aside0.mk (Kd.R_below (by (with_reducible repeat (first | apply Kd.R_alloc | apply Kd.R_drewN | apply Kd.R_drew)); exact HO359.out) hb); have n1_ := Aside0.mk (below_step (by repeat (first | (with_reducible first | exact HB.out | apply below_alloc | apply pw_below_drewN | apply below_drew1) | exact HB.out)) hb); have n2_ := Aside0.mk (hbox); have n3_ := Aside0.mk ((by rw [hg]; exact (below_size (by repeat (first | (with_reducible first | exact HB.out | apply below_alloc | apply pw_below_drewN | apply below_drew1) | exact HB.out))) : w.heap.size ≤ gb361)); have n4_ := Aside0.mk ((by rw [hg]; exact (below_size (by repeat (first | (with_reducible first | exact HB.out | apply below_alloc | apply pw_below_drewN | apply below_drew1) | exact HB.out))) : w.heap.size ≤ gb361)); clear HO359; clear HB; have HO359 := n0_; have HB := n1_; have BK361 := n2_; have GW361 := n3_; have GE361 := n4_; clear n0_ n1_ n2_ n3_ n4_; clear hb hbox hg; obtain ⟨Ao11, co11, eo11⟩ := Kd.R_slice HO359.out; subst eo11; have hcz12_0 : w10.cell? ⟨gb361, 0, none⟩ = some (.slice none 0 0) := (blk_cell BK361.out 0).trans rfl; have hcz12_1 : w10.cell? ⟨gb361, 1, none⟩ = some (.int .i32 0) := (blk_cell BK361.out 1).trans rfl; have hfz12_0 := blk_frozen BK361.out 0; have hfz12_1 := blk_frozen BK361.out 1))
   have n0_ : Aside0 (Kd.R (Kd.int .i32) 26 ((w10.setCell ⟨gb361, 0, none⟩ (.slice Ao11 t357.length co11)).setCell ⟨gb361, 1, none⟩ (.int .i32 t360)) w.heap.size (fun _ => True) (.slice Ao11 t357.length co11) t357) := ⟨by (with_reducible repeat (first | apply Kd.R_alloc | apply Kd.R_drewN | apply Kd.R_drew)); exact Kd.R_mono (Kd.R_far (p := ⟨gb361, 1, none⟩) (Kd.R_far (p := ⟨gb361, 0, none⟩) (Kd.R_types HO359.out BK361.out (by decide)) (fun _ hk => hk.2) (.slice Ao11 t357.length co11)) (fun _ hk => hk.2) (.int .i32 t360)) (fun _ hk => trivial)⟩
   have n1_ : Aside0 (((w10.setCell ⟨gb361, 0, none⟩ (.slice Ao11 t357.length co11)).setCell ⟨gb361, 1, none⟩ (.int .i32 t360)).heap[gb361]? = some (.cells #[.slice Ao11 t357.length co11, .int .i32 t360] 28 (0, 0))) := ⟨by (with_reducible repeat (first | refine blk_drewN ?_ _ | refine blk_drew ?_ | refine blk_alloc ?_ _)); refine blk_put (cs := #[.slice Ao11 t357.length co11, .int .i32 0]) ?_ 1 _ rfl; (with_reducible repeat (first | refine blk_drewN ?_ _ | refine blk_drew ?_ | refine blk_alloc ?_ _)); refine blk_put (cs := #[.slice none 0 0, .int .i32 0]) ?_ 0 _ rfl; (with_reducible repeat (first | refine blk_drewN ?_ _ | refine blk_drew ?_ | refine blk_alloc ?_ _)); exact BK361.out⟩
   have n2_ : Aside0 (Below w.heap.size w ((w10.setCell ⟨gb361, 0, none⟩ (.slice Ao11 t357.length co11)).setCell ⟨gb361, 1, none⟩ (.int .i32 t360))) := ⟨by repeat (first | (with_reducible first | exact HB.out | apply below_alloc | apply pw_below_drewN | apply below_drew1 | refine below_set ?_ GE361.out) | exact HB.out)⟩
   (try clear HO359)
   (try clear BK361)
   (try clear HB)
   generalize ((w10.setCell ⟨gb361, 0, none⟩ (.slice Ao11 t357.length co11)).setCell ⟨gb361, 1, none⟩ (.int .i32 t360)) = w13 at n0_ n1_ n2_ ⊢
   have HO359 := n0_
   have BK361 := n1_
   have HB := n2_
   clear n0_ n1_ n2_
   have n0_ := Aside0.mk (Kd.R_drew HO359.out)
   have n1_ := Aside0.mk (blk_drew BK361.out)
   have n2_ := Aside0.mk (below_drew1 HB.out)
   clear HO359
   clear BK361
   clear HB
   have HO359 := n0_
   have BK361 := n1_
   have HB := n2_
   clear n0_ n1_ n2_
   have p362 : 0 ≤ (0 : Int) := (by omega)
   have q362 : 0 < (t357.length : Int) := of_decide_eq_true (by first | (with_reducible assumption) | assumption)
   obtain ⟨ad362, e362, hx362_0⟩ := Kd.at_int (Kd.R_reads' HO359.out).2.2 0 p362 q362
   cases e362
   have qi362 : (0 < t357.length) = True := eq_true (by omega)
   (try rw [show ((0 : Int)).toNat = 0 from rfl] at hx362_0)
   (try rw [Addr.add_zero'] at hx362_0)
   replace p362 := eq_true p362
   replace q362 := eq_true q362
   have p363 : 0 ≤ (0 : Int) := (by omega)
   have q363 : 0 < (t357.length : Int) := of_decide_eq_true (by first | (with_reducible assumption) | assumption)
   obtain ⟨ad363, e363, hx363_0⟩ := Kd.at_int (Kd.R_reads' HO359.out).2.2 0 p363 q363
   obtain rfl : ad362 = ad363 := (by injection e363)
   have qi363 : (0 < t357.length) = True := eq_true (by omega)
   (try rw [show ((0 : Int)).toNat = 0 from rfl] at hx363_0)
   (try rw [Addr.add_zero'] at hx363_0)
   replace p363 := eq_true p363
   replace q363 := eq_true q363
   refine start_ (n := 25) (S := fun w' => w'.cell? ⟨gb361, 0, none⟩ = some (.slice (some ad362) t357.length co11) ∧ w'.cell? ⟨gb361, 1, none⟩ = some (.int .i32 t360) ∧ w'.cell? ad362 = some (.int .i32 (rd t357 0)) ∧ w'.cell? ad362 = some (.int .i32 (rd t357 0))) (ds := []) #[false, false, false, false, false, false, false, false, false, false, false, false, false, false, false, false, false, false, false, false, false, false, false, false, false] (by kernel_rfl) rfl rfl ⟨(blk_cell BK361.out 0).trans rfl, (blk_cell BK361.out 1).trans rfl, hx362_0, hx363_0⟩ (fun hHeld => ?_); refine with_tabW transposallaw08_CalendarPeriods.tab4 transposallaw08_CalendarPeriods.bits4 (fun HT_ HW_ => ?_)
   generalize w13.drew = w14 at HO359 BK361 HB hx362_0 hx363_0 hHeld ⊢
   refine pure_ (i := 0) (N := some 18) (v := ?_) (a' := ?_) #[true, false, false, false, false, false, false, false, false, false, false, false, false, false, false, false, false, false, false, false, false, false, false, false, false] rfl rfl (any_of HT_.out (by kernel_rfl)) (fun _ _ _ h => h) (Or.inl ⟨by rfl, ?_⟩) ?_ ?_
   rotate_left
   ·intro w'
    go_simp
    with_reducible rfl
   rotate_left
   ·simp only [Act.put, List.setIfInBounds_toArray, List.set_cons_zero, List.set_cons_succ, i64_w, i32_w]
    rfl
   refine pure_ (i := 1) (N := some 19) (v := ?_) (a' := ?_) #[true, true, false, false, false, false, false, false, false, false, false, false, false, false, false, false, false, false, false, false, false, false, false, false, false] rfl rfl (any_of HT_.out (by kernel_rfl)) (fun _ _ _ h => h) (Or.inl ⟨by rfl, ?_⟩) ?_ ?_
   rotate_left
   ·intro w'
    go_simp
    with_reducible rfl
   rotate_left
   ·simp only [Act.put, List.setIfInBounds_toArray, List.set_cons_zero, List.set_cons_succ, i64_w, i32_w]
    rfl
   refine pure_ (i := 2) (N := some 20) (v := ?_) (a' := ?_) #[true, true, true, false, false, false, false, false, false, false, false, false, false, false, false, false, false, false, false, false, false, false, false, false, false] rfl rfl (any_of HT_.out (by kernel_rfl)) (fun _ _ _ h => h) (Or.inl ⟨by rfl, ?_⟩) ?_ ?_
   rotate_left
   ·intro w'
    go_simp
    with_reducible rfl
   rotate_left
   ·simp only [Act.put, List.setIfInBounds_toArray, List.set_cons_zero, List.set_cons_succ, i64_w, i32_w]
    rfl
   refine pure_ (i := 3) (N := some 21) (v := ?_) (a' := ?_) #[true, true, true, true, false, false, false, false, false, false, false, false, false, false, false, false, false, false, false, false, false, false, false, false, false] rfl rfl (any_of HT_.out (by kernel_rfl)) (fun _ _ _ h => h) (Or.inl ⟨by rfl, ?_⟩) ?_ ?_
   rotate_left
   ·intro w'
    go_simp
    with_reducible rfl
   rotate_left
   ·simp only [Act.put, List.setIfInBounds_toArray, List.set_cons_zero, List.set_cons_succ, i64_w, i32_w]
    rfl
   refine pure_ (i := 4) (N := some 22) (v := ?_) (a' := ?_) #[true, true, true, true, true, false, false, false, false, false, false, false, false, false, false, false, false, false, false, false, false, false, false, false, false] rfl rfl (any_of HT_.out (by kernel_rfl)) (fun _ _ _ h => h) (Or.inl ⟨by rfl, ?_⟩) ?_ ?_
   rotate_left
   ·intro w'
    go_simp
    with_reducible rfl
   rotate_left
   ·simp only [Act.put, List.setIfInBounds_toArray, List.set_cons_zero, List.set_cons_succ, i64_w, i32_w]
    rfl
   refine pure_ (i := 5) (N := some 23) (v := ?_) (a' := ?_) #[true, true, true, true, true, true, false, false, false, false, false, false, false, false, false, false, false, false, false, false, false, false, false, false, false] rfl rfl (any_of HT_.out (by kernel_rfl)) (fun _ _ _ h => h) (Or.inl ⟨by rfl, ?_⟩) ?_ ?_
   rotate_left
   ·intro w'
    go_simp
    with_reducible rfl
   rotate_left
   ·simp only [Act.put, List.setIfInBounds_toArray, List.set_cons_zero, List.set_cons_succ, i64_w, i32_w]
    rfl
   refine pure_ (i := 6) (N := some 24) (v := ?_) (a' := ?_) #[true, true, true, true, true, true, true, false, false, false, false, false, false, false, false, false, false, false, false, false, false, false, false, false, false] rfl rfl (any_of HT_.out (by kernel_rfl)) (fun _ _ _ h => h) (Or.inl ⟨by rfl, ?_⟩) ?_ ?_
   rotate_left
   ·intro w'
    go_simp
    with_reducible rfl
   rotate_left
   ·simp only [Act.put, List.setIfInBounds_toArray, List.set_cons_zero, List.set_cons_succ, i64_w, i32_w]
    rfl
   refine pure_ (i := 7) (N := some 25) (v := ?_) (a' := ?_) #[true, true, true, true, true, true, true, true, false, false, false, false, false, false, false, false, false, false, false, false, false, false, false, false, false] rfl rfl (any_of HT_.out (by kernel_rfl)) (fun _ _ _ h => h) (Or.inl ⟨by rfl, ?_⟩) ?_ ?_
   rotate_left
   ·intro w'
    go_simp
    with_reducible rfl
   rotate_left
   ·simp only [Act.put, List.setIfInBounds_toArray, List.set_cons_zero, List.set_cons_succ, i64_w, i32_w]
    rfl
   refine pure_ (i := 8) (N := some 26) (v := ?_) (a' := ?_) #[true, true, true, true, true, true, true, true, true, false, false, false, false, false, false, false, false, false, false, false, false, false, false, false, false] rfl rfl (any_of HT_.out (by kernel_rfl)) (fun _ _ _ h => h) (Or.inl ⟨by rfl, ?_⟩) ?_ ?_
   rotate_left
   ·intro w'
    go_simp
    with_reducible rfl
   rotate_left
   ·simp only [Act.put, List.setIfInBounds_toArray, List.set_cons_zero, List.set_cons_succ, i64_w, i32_w]
    rfl
   refine pure_ (i := 10) (N := some 28) (v := ?_) (a' := ?_) #[true, true, true, true, true, true, true, true, true, false, true, false, false, false, false, false, false, false, false, false, false, false, false, false, false] rfl rfl (any_of HT_.out (by kernel_rfl)) (fun _ _ _ h => h) (Or.inl ⟨by rfl, ?_⟩) ?_ ?_
   rotate_left
   ·intro w'
    go_simp
    with_reducible rfl
   rotate_left
   ·simp only [Act.put, List.setIfInBounds_toArray, List.set_cons_zero, List.set_cons_succ, i64_w, i32_w]
    rfl
   refine pure_ (i := 13) (N := some 31) (v := ?_) (a' := ?_) #[true, true, true, true, true, true, true, true, true, false, true, false, false, true, false, false, false, false, false, false, false, false, false, false, false] rfl rfl (any_of HT_.out (by kernel_rfl)) (fun _ _ _ h => h) (Or.inl ⟨by rfl, ?_⟩) ?_ ?_
   rotate_left
   ·intro w'
    go_simp
    with_reducible rfl
   rotate_left
   ·simp only [Act.put, List.setIfInBounds_toArray, List.set_cons_zero, List.set_cons_succ, i64_w, i32_w]
    rfl
   refine pure_ (i := 17) (N := some 35) (v := ?_) (a' := ?_) #[true, true, true, true, true, true, true, true, true, false, true, false, false, true, false, false, false, true, false, false, false, false, false, false, false] rfl rfl (any_of HT_.out (by kernel_rfl)) (fun _ _ _ h => h) (Or.inl ⟨by rfl, ?_⟩) ?_ ?_
   rotate_left
   ·intro w'
    go_simp
    with_reducible rfl
   rotate_left
   ·simp only [Act.put, List.setIfInBounds_toArray, List.set_cons_zero, List.set_cons_succ, i64_w, i32_w]
    rfl
   refine pure_ (i := 24) (N := some 42) (v := ?_) (a' := ?_) #[true, true, true, true, true, true, true, true, true, false, true, false, false, true, false, false, false, true, false, false, false, false, false, false, true] rfl rfl (any_of HT_.out (by kernel_rfl)) (fun _ _ _ h => h) (Or.inl ⟨by rfl, ?_⟩) ?_ ?_
   rotate_left
   ·intro w'
    go_simp
    with_reducible rfl
   rotate_left
   ·simp only [Act.put, List.setIfInBounds_toArray, List.set_cons_zero, List.set_cons_succ, i64_w, i32_w]
    rfl
   refine take_ (i := 9) (N := some 27) (v := ?_) (a' := ?_) #[true, true, true, true, true, true, true, true, true, true, true, false, false, true, false, false, false, true, false, false, false, false, false, false, true] rfl rfl (take_ofW HT_.out HW_.out (by kernel_rfl)) (fun _ _ _ h => h) (Or.inl ⟨by rfl, ?_⟩) hHeld ?_ ?_
   rotate_left
   ·rintro w' ⟨s0, s1, s2, s3⟩
    go_simp
    with_reducible rfl
   rotate_left
   ·simp only [Act.put, List.setIfInBounds_toArray, List.set_cons_zero, List.set_cons_succ, i64_w, i32_w]
    rfl
   refine take_ (i := 11) (N := some 29) (v := ?_) (a' := ?_) #[true, true, true, true, true, true, true, true, true, true, true, true, false, true, false, false, false, true, false, false, false, false, false, false, true] rfl rfl (take_ofW HT_.out HW_.out (by kernel_rfl)) (fun _ _ _ h => h) (Or.inl ⟨by rfl, ?_⟩) hHeld ?_ ?_
   rotate_left
   ·rintro w' ⟨s0, s1, s2, s3⟩
    go_simp
    with_reducible rfl
   rotate_left
   ·simp only [Act.put, List.setIfInBounds_toArray, List.set_cons_zero, List.set_cons_succ, i64_w, i32_w]
    rfl
   refine pure_ (i := 12) (N := some 30) (v := ?_) (a' := ?_) #[true, true, true, true, true, true, true, true, true, true, true, true, true, true, false, false, false, true, false, false, false, false, false, false, true] rfl rfl (any_of HT_.out (by kernel_rfl)) (fun _ _ _ h => h) (Or.inl ⟨by rfl, ?_⟩) ?_ ?_
   rotate_left
   ·intro w'
    go_simp
    with_reducible rfl
   rotate_left
   ·simp only [Act.put, List.setIfInBounds_toArray, List.set_cons_zero, List.set_cons_succ, i64_w, i32_w]
    rfl
   refine take_ (i := 14) (N := some 32) (v := ?_) (a' := ?_) #[true, true, true, true, true, true, true, true, true, true, true, true, true, true, true, false, false, true, false, false, false, false, false, false, true] rfl rfl (take_ofW HT_.out HW_.out (by kernel_rfl)) (fun _ _ _ h => h) (Or.inl ⟨by rfl, ?_⟩) hHeld ?_ ?_
   rotate_left
   ·rintro w' ⟨s0, s1, s2, s3⟩
    go_simp
    with_reducible rfl
   rotate_left
   ·simp only [Act.put, List.setIfInBounds_toArray, List.set_cons_zero, List.set_cons_succ, i64_w, i32_w]
    rfl
   refine pure_ (i := 15) (N := some 33) (v := ?_) (a' := ?_) #[true, true, true, true, true, true, true, true, true, true, true, true, true, true, true, true, false, true, false, false, false, false, false, false, true] rfl rfl (any_of HT_.out (by kernel_rfl)) (fun _ _ _ h => h) (Or.inl ⟨by rfl, ?_⟩) ?_ ?_
   rotate_left
   ·intro w'
    go_simp
    with_reducible rfl
   rotate_left
   ·simp only [Act.put, List.setIfInBounds_toArray, List.set_cons_zero, List.set_cons_succ, i64_w, i32_w]
    rfl
   refine take_ (i := 16) (N := some 34) (v := ?_) (a' := ?_) #[true, true, true, true, true, true, true, true, true, true, true, true, true, true, true, true, true, true, false, false, false, false, false, false, true] rfl rfl (take_ofW HT_.out HW_.out (by kernel_rfl)) (fun _ _ _ h => h) (Or.inl ⟨by rfl, ?_⟩) hHeld ?_ ?_
   rotate_left
   ·rintro w' ⟨s0, s1, s2, s3⟩
    go_simp
    with_reducible rfl
   rotate_left
   ·simp only [Act.put, List.setIfInBounds_toArray, List.set_cons_zero, List.set_cons_succ, i64_w, i32_w]
    rfl
   refine take_ (i := 18) (N := some 36) (v := ?_) (a' := ?_) #[true, true, true, true, true, true, true, true, true, true, true, true, true, true, true, true, true, true, true, false, false, false, false, false, true] rfl rfl (take_ofW HT_.out HW_.out (by kernel_rfl)) (fun _ _ _ h => h) (Or.inl ⟨by rfl, ?_⟩) hHeld ?_ ?_
   rotate_left
   ·rintro w' ⟨s0, s1, s2, s3⟩
    go_simp
    with_reducible rfl
   rotate_left
   ·simp only [Act.put, List.setIfInBounds_toArray, List.set_cons_zero, List.set_cons_succ, i64_w, i32_w]
    rfl
   refine pure_ (i := 19) (N := some 37) (v := ?_) (a' := ?_) #[true, true, true, true, true, true, true, true, true, true, true, true, true, true, true, true, true, true, true, true, false, false, false, false, true] rfl rfl (any_of HT_.out (by kernel_rfl)) (fun _ _ _ h => h) (Or.inl ⟨by rfl, ?_⟩) ?_ ?_
   rotate_left
   ·intro w'
    go_simp
    with_reducible rfl
   rotate_left
   ·simp only [Act.put, List.setIfInBounds_toArray, List.set_cons_zero, List.set_cons_succ, i64_w, i32_w]
    rfl
   refine take_ (i := 20) (N := some 38) (v := ?_) (a' := ?_) #[true, true, true, true, true, true, true, true, true, true, true, true, true, true, true, true, true, true, true, true, true, false, false, false, true] rfl rfl (take_ofW HT_.out HW_.out (by kernel_rfl)) (fun _ _ _ h => h) (Or.inl ⟨by rfl, ?_⟩) hHeld ?_ ?_
   rotate_left
   ·rintro w' ⟨s0, s1, s2, s3⟩
    go_simp
    with_reducible rfl
   rotate_left
   ·simp only [Act.put, List.setIfInBounds_toArray, List.set_cons_zero, List.set_cons_succ, i64_w, i32_w]
    rfl
   refine pure_ (i := 21) (N := some 39) (v := ?_) (a' := ?_) #[true, true, true, true, true, true, true, true, true, true, true, true, true, true, true, true, true, true, true, true, true, true, false, false, true] rfl rfl (any_of HT_.out (by kernel_rfl)) (fun _ _ _ h => h) (Or.inl ⟨by rfl, ?_⟩) ?_ ?_
   rotate_left
   ·intro w'
    go_simp
    with_reducible rfl
   rotate_left
   ·simp only [Act.put, List.setIfInBounds_toArray, List.set_cons_zero, List.set_cons_succ, i64_w, i32_w]
    rfl
   refine one_ (i := 22) (N := some 40) #[true, true, true, true, true, true, true, true, true, true, true, true, true, true, true, true, true, true, true, true, true, true, true, false, true] rfl rfl (one_of HT_.out (by kernel_rfl)) (by decide) (fun K hK => ?_)
   refine Kd.R_lit_step (Kd.int .i32) _ 26 ?hg (N := 40) ?hd (xs := ([wrap32 (a2), wrap32 ((wrap32 (a0)) + (wrap32 (Int.tmod a2 200))), t360, wrap32 (t360 - 1), rd t357 0, wrap32 ((rd t357 0) - 1)] : List Int)) (inner := [.int .i32 (wrap32 (a2)), .int .i32 (wrap32 ((wrap32 (a0)) + (wrap32 (Int.tmod a2 200)))), .int .i32 t360, .int .i32 (wrap32 (t360 - 1)), .int .i32 (rd t357 0), .int .i32 (wrap32 ((rd t357 0) - 1))]) (ok := fun _ => True) (okp := fun _ => True) ?hr ?hp (fun _ hk => hk) trivial (Below.refl _ _) (Nat.le_refl _) (by simp) ?_; (case hd => rfl); (case hg => rfl); (case hr => first | (go_simp; done) | (go_simp; rfl)); (case hp => exact (Reps.one (show Kd.M (Kd.int .i32) _ _ _ (wrap32 (a2)) [.int .i32 (wrap32 (a2))] from rfl) (Reps.one (show Kd.M (Kd.int .i32) _ _ _ (wrap32 ((wrap32 (a0)) + (wrap32 (Int.tmod a2 200)))) [.int .i32 (wrap32 ((wrap32 (a0)) + (wrap32 (Int.tmod a2 200))))] from rfl) (Reps.one (show Kd.M (Kd.int .i32) _ _ _ t360 [.int .i32 t360] from rfl) (Reps.one (show Kd.M (Kd.int .i32) _ _ _ (wrap32 (t360 - 1)) [.int .i32 (wrap32 (t360 - 1))] from rfl) (Reps.one (show Kd.M (Kd.int .i32) _ _ _ (rd t357 0) [.int .i32 (rd t357 0)] from rfl) (Reps.one (show Kd.M (Kd.int .i32) _ _ _ (wrap32 ((rd t357 0) - 1)) [.int .i32 (wrap32 ((rd t357 0) - 1))] from rfl) (Reps.none _ _))))))))
   intro v365 w15 ho16 hb hg_ hnew_
   have HS2_ := (hb.cell (World.block_lt_of_cell? _ _ (hHeld.2.2.1))).trans (hHeld.2.2.1)
   have HS3_ := (hb.cell (World.block_lt_of_cell? _ _ (hHeld.2.2.2))).trans (hHeld.2.2.2)
   clear hg_ hnew_
   (first | rw [← Ny364.out] at ho16 | (simp only [Int.reduceToNat] at ho16; rw [← Ny364.out] at ho16))
   have n0_ := Aside0.mk (Kd.R_elder' (by (with_reducible repeat (first | apply Kd.R_alloc | apply Kd.R_drewN | apply Kd.R_drew)); exact HO359.out) (Kd.R_base ho16) hb)
   have n1_ := Aside0.mk (Kd.R_lower (Kd.R_new' ho16 (Kd.R_lt (by (with_reducible repeat (first | apply Kd.R_alloc | apply Kd.R_drewN | apply Kd.R_drew)); exact HO359.out))) (below_size (by repeat (first | (with_reducible first | exact HB.out | apply below_alloc | apply pw_below_drewN | apply below_drew1 | refine below_set ?_ GE361.out) | exact HB.out))))
   have n2_ := Aside0.mk (blk_below (g := gb361) (o := .cells #[.slice (some ad362) t357.length co11, .int .i32 t360] 28 (0, 0)) (by (with_reducible repeat (first | refine blk_drewN ?_ _ | refine blk_drew ?_ | refine blk_alloc ?_ _)); exact BK361.out) hb)
   have n3_ := Aside0.mk (below_step (by repeat (first | (with_reducible first | exact HB.out | apply below_alloc | apply pw_below_drewN | apply below_drew1 | refine below_set ?_ GE361.out) | exact HB.out)) hb)
   clear HO359
   clear BK361
   clear HB
   have HO359 := n0_
   have HO366 := n1_
   have BK361 := n2_
   have HB := n3_
   clear n0_ n1_ n2_ n3_
   clear hb ho16
   obtain ⟨Ao17, co17, eo17⟩ := Kd.R_slice HO366.out
   (first | subst eo17 | (injection eo17 with f1_ f2_ f3_; have f4_ := f1_.symm; have f5_ := f3_.symm; clear f1_ f2_ f3_; subst f4_; subst f5_))
   refine hK.out _ _ ⟨(blk_cell BK361.out 0).trans rfl, (blk_cell BK361.out 1).trans rfl, HS2_, HS3_⟩ (fun hHeld => ?_)
   clear hK K
   refine norm_ (a' := ?_) ?_ ?_
   rotate_left
   ·show Act.put _ (some 40) _ = _
    simp only [Act.put, List.setIfInBounds_toArray, List.set_cons_zero, List.set_cons_succ, i64_w, i32_w]
    rfl
   refine pure_ (i := 23) (N := some 41) (v := ?_) (a' := ?_) #[true, true, true, true, true, true, true, true, true, true, true, true, true, true, true, true, true, true, true, true, true, true, true, true, true] rfl rfl (any_of HT_.out (by kernel_rfl)) (fun _ _ _ h => h) (Or.inl ⟨by rfl, ?_⟩) ?_ ?_
   rotate_left
   ·intro w'
    go_simp
    with_reducible rfl
   rotate_left
   ·simp only [Act.put, List.setIfInBounds_toArray, List.set_cons_zero, List.set_cons_succ, i64_w, i32_w]
    rfl
   refine done_ (done_of HT_.out (by kernel_rfl)) ?_
   try go_wp2
   go_loopg [42] k (fun kq v42 w' => ∃ (x42_1 : Int), v42 = .int .i64 x42_1 ∧ Aside0 (transposallaw08_CalendarPeriods.l0 kq y364 (y364.length : Int) x42_1 t357 t360 = some r) ∧ Aside0 (kq ≤ k) ∧ Aside0 (Kd.R (Kd.int .i32) 26 w' w.heap.size (fun k_ => some k_ ≠ ((.slice (some ad362) t357.length co11) : Value).ownBlock) (.slice Ao17 y364.length co17) y364) ∧ Aside0 (Kd.R (Kd.int .i32) 26 w' w.heap.size (fun k_ => some k_ ≠ ((.slice Ao17 y364.length co17) : Value).ownBlock) (.slice (some ad362) t357.length co11) t357) ∧ Aside0 (w'.heap[gb361]? = some (.cells #[(.slice (some ad362) t357.length co11), .int .i32 t360] 28 (0, 0))) ∧ Aside0 (Below w.heap.size w w'))
   case atStart => exact ⟨(0), (by first | rfl | (simp; done) | (simp [*]; done)), H', ⟨Nat.le_refl _⟩, ⟨by (with_reducible repeat (first | apply Kd.R_alloc | apply Kd.R_drewN | apply Kd.R_drew)); exact Kd.R_mono HO366.out (fun _ hk => hk.2)⟩, ⟨by (with_reducible repeat (first | apply Kd.R_alloc | apply Kd.R_drewN | apply Kd.R_drew)); exact Kd.R_mono HO359.out (fun _ hk => hk.2)⟩, ⟨by (with_reducible repeat (first | refine blk_drewN ?_ _ | refine blk_drew ?_ | refine blk_alloc ?_ _)); exact BK361.out⟩, ⟨by repeat (first | (with_reducible first | exact HB.out | apply below_alloc | apply pw_below_drewN | apply below_drew1 | refine below_set ?_ GE361.out) | exact HB.out)⟩⟩
   case round =>
    clear H'
    try clear c1
    try clear p2
    try clear p3
    try clear q3
    try clear hx3
    try clear qi3
    try clear c5
    try clear c7
    try clear c7b0
    try clear c7b1
    try clear c12
    try clear c13
    try clear hcz12_0
    try clear hcz12_1
    try clear hfz12_0
    try clear hfz12_1
    try clear hx362_0
    try clear hx363_0
    try clear p362
    try clear p363
    try clear q362
    try clear q363
    obtain ⟨x42_1, rfl, HA, HK1, HO_40, HO_362000, BK361, HB⟩ := hrel
    cases gk with
    | zero => exact absurd HA.out (by simp [transposallaw08_CalendarPeriods.l0])
    | succ k1 =>
     have H := HA.out
     clear HA
     simp only [transposallaw08_CalendarPeriods.l0] at H
     by_cases c18 : x42_1 < (y364.length : Int)
     ·rw [if_pos c18] at H
      have c18b0 : decide (x42_1 < (y364.length : Int)) = true := decide_eq_true c18
      clear c18
      by_cases c19 : 0 ≤ x42_1
      ·rw [if_pos c19] at H
       have c19b0 : decide (0 ≤ x42_1) = true := decide_eq_true c19
       clear c19
       by_cases c20 : x42_1 < (y364.length : Int)
       ·rw [if_pos c20] at H
        have c20b0 : decide (x42_1 < (y364.length : Int)) = true := decide_eq_true c20
        clear c20
        replace H := Option.bind_eq_some_iff.mp H
        obtain ⟨t369, A210, H⟩ := H
        replace H : ((calendar_Calendar_Period.f k1 t357 t360 (rd y364 x42_1)).bind fun bt370 => (if (bt370.2 != (decide (t369 ≥ 0))) = true then (some false) else (if bt370.1 = (mx t369 0) then (transposallaw08_CalendarPeriods.l0 k1 y364 (y364.length : Int) (wrap64 (x42_1 + 1)) t357 t360) else (some false)))) = some r := H
        have A21 := Aside0.mk A210
        clear A210
        replace H := Option.bind_eq_some_iff.mp H
        obtain ⟨⟨t370, t371⟩, A220, H⟩ := H
        replace H : (if (t371 != (decide (t369 ≥ 0))) = true then (some false) else (if t370 = (mx t369 0) then (transposallaw08_CalendarPeriods.l0 k1 y364 (y364.length : Int) (wrap64 (x42_1 + 1)) t357 t360) else (some false))) = some r := H
        have A22 := Aside0.mk A220
        clear A220
        by_cases c23 : (t371 != (decide (t369 ≥ 0))) = true
        ·rw [if_pos c23] at H
         have c23b0 : (t371 != (decide (t369 ≥ 0))) = true := c23
         (try (have c23b1 : decide (t371 = (decide (t369 ≥ 0))) = false := by simpa using c23))
         (try (have c23b2 : (t371 == (decide (t369 ≥ 0))) = false := by simpa using c23))
         (try (have c23b3 : ¬ (t371 = (decide (t369 ≥ 0))) := by simpa using c23))
         clear c23
         obtain rfl := Option.some.inj H
         have p368 : 0 ≤ (x42_1 : Int) := of_decide_eq_true (by first | (with_reducible assumption) | assumption)
         have q368 : x42_1 < (y364.length : Int) := of_decide_eq_true (by first | (with_reducible assumption) | assumption)
         obtain ⟨ad368, e368, hx368_0⟩ := Kd.at_int (Kd.R_reads' HO_40.out).2.2 x42_1 p368 q368
         cases e368
         replace p368 := eq_true p368
         replace q368 := eq_true q368
         have hcz24_0 : wr.cell? ⟨gb361, 0, none⟩ = some (.slice (some ad362) t357.length co11) := (blk_cell BK361.out 0).trans rfl
         have hcz24_1 : wr.cell? ⟨gb361, 1, none⟩ = some (.int .i32 t360) := (blk_cell BK361.out 1).trans rfl
         have hfz24_0 := blk_frozen BK361.out 0
         have hfz24_1 := blk_frozen BK361.out 1
         go_wp2_with (first | ((with_reducible refine gate_callee (f := 17) rfl ?_); refine goesL_ (some 48) rfl rfl Tryz.func17 (by kernel_rfl) rfl #[.agg #[.slice (some ad362) t357.length co11, .int .i32 t360], .int .i32 (rd y364 x42_1)] rfl (by (try simp only [List.map_toArray, List.map_cons, List.map_nil]); first | done | rfl | (simp only [List.length_drop, List.length_take]; rfl)) ?_; (with_reducible refine (transposallaw08_Period.calls k1 _ _ t357 t360 (rd y364 x42_1) t369 _ ?side1 ?side2 A21.out).mono ?_); (case side1 => repeat (first | exact (Kd.R_reads' HO_362000.out).2.2 | (with_reducible refine Kd.C_alloc ?_ _) | (with_reducible refine Kd.C_drewN ?_ _) | (with_reducible refine Kd.C_drew ?_))); (case side2 => exact (Kd.R_reads' HO_362000.out).2.1); rintro e w25 ⟨rfl, hb⟩; refine ⟨_, rfl, ?_⟩; have n0_ := Aside0.mk (Kd.R_below (by (with_reducible repeat (first | apply Kd.R_alloc | apply Kd.R_drewN | apply Kd.R_drew)); exact HO_40.out) hb); have n1_ := Aside0.mk (Kd.R_below (by (with_reducible repeat (first | apply Kd.R_alloc | apply Kd.R_drewN | apply Kd.R_drew)); exact HO_362000.out) hb); have n2_ := Aside0.mk (blk_below (g := gb361) (o := .cells #[.slice (some ad362) t357.length co11, .int .i32 t360] 28 (0, 0)) (by (with_reducible repeat (first | refine blk_drewN ?_ _ | refine blk_drew ?_ | refine blk_alloc ?_ _)); exact BK361.out) hb); have n3_ := Aside0.mk (below_step (by repeat (first | (with_reducible first | exact HB.out | apply below_alloc | apply pw_below_drewN | apply below_drew1 | refine below_set ?_ GE361.out) | exact HB.out)) hb); clear HO_40; clear HO_362000; clear BK361; clear HB; have HO_40 := n0_; have HO_362000 := n1_; have BK361 := n2_; have HB := n3_; clear n0_ n1_ n2_ n3_; (try clear hb); (try clear hb2); (try clear hk); (try clear hi); have hcz26_0 : w25.cell? ⟨gb361, 0, none⟩ = some (.slice (some ad362) t357.length co11) := (blk_cell BK361.out 0).trans rfl; have hcz26_1 : w25.cell? ⟨gb361, 1, none⟩ = some (.int .i32 t360) := (blk_cell BK361.out 1).trans rfl; have hfz26_0 := blk_frozen BK361.out 0; have hfz26_1 := blk_frozen BK361.out 1) | ((with_reducible refine gate_callee (f := 15) rfl ?_); refine goesL_ (some 52) rfl rfl Tryz.func15 (by kernel_rfl) rfl #[.agg #[.slice (some ad362) t357.length co11, .int .i32 t360], .int .i32 (rd y364 x42_1)] rfl (by (try simp only [List.map_toArray, List.map_cons, List.map_nil]); first | done | rfl | (simp only [List.length_drop, List.length_take]; rfl)) ?_; (with_reducible refine (calendar_Calendar_Period.calls k1 _ _ t357 t360 (rd y364 x42_1) t370 t371 _ ?side1 ?side2 A22.out).mono ?_); (case side1 => repeat (first | exact (Kd.R_reads' HO_362000.out).2.2 | (with_reducible refine Kd.C_alloc ?_ _) | (with_reducible refine Kd.C_drewN ?_ _) | (with_reducible refine Kd.C_drew ?_))); (case side2 => exact (Kd.R_reads' HO_362000.out).2.1); rintro e w27 ⟨rfl, hb⟩; refine ⟨_, rfl, ?_⟩; have n0_ := Aside0.mk (Kd.R_below (by (with_reducible repeat (first | apply Kd.R_alloc | apply Kd.R_drewN | apply Kd.R_drew)); exact HO_40.out) hb); have n1_ := Aside0.mk (Kd.R_below (by (with_reducible repeat (first | apply Kd.R_alloc | apply Kd.R_drewN | apply Kd.R_drew)); exact HO_362000.out) hb); have n2_ := Aside0.mk (blk_below (g := gb361) (o := .cells #[.slice (some ad362) t357.length co11, .int .i32 t360] 28 (0, 0)) (by (with_reducible repeat (first | refine blk_drewN ?_ _ | refine blk_drew ?_ | refine blk_alloc ?_ _)); exact BK361.out) hb); have n3_ := Aside0.mk (below_step (by repeat (first | (with_reducible first | exact HB.out | apply below_alloc | apply pw_below_drewN | apply below_drew1 | refine below_set ?_ GE361.out) | exact HB.out)) hb); clear HO_40; clear HO_362000; clear BK361; clear HB; have HO_40 := n0_; have HO_362000 := n1_; have BK361 := n2_; have HB := n3_; clear n0_ n1_ n2_ n3_; (try clear hb); (try clear hb2); (try clear hk); (try clear hi)))
         go_ret
         exact ⟨by first | rfl | (simp [errW_none, errW_some] <;> rfl) | (simp [*, errW_none, errW_some] <;> rfl), by repeat (first | (with_reducible first | exact HB.out | apply below_alloc | apply pw_below_drewN | apply below_drew1 | refine below_set ?_ GE361.out) | exact HB.out)⟩
        ·rw [if_neg c23] at H
         have c23b0 : (t371 != (decide (t369 ≥ 0))) = false := by simpa using c23
         (try (have c23b1 : decide (t371 = (decide (t369 ≥ 0))) = true := by simpa using c23))
         (try (have c23b2 : (t371 == (decide (t369 ≥ 0))) = true := by simpa using c23))
         clear c23
         obtain ⟨ji28, hji28⟩ : ∃ j_ : Int, (mx t369 0) = j_ := ⟨_, rfl⟩
         replace H : (if t370 = (ji28) then (transposallaw08_CalendarPeriods.l0 k1 y364 (y364.length : Int) (wrap64 (x42_1 + 1)) t357 t360) else (some false)) = some r := by first | (rw [hji28] at H; exact H) | (simp only [hji28] at H ⊢; exact H)
         (try rw [hji28] at A21)
         (try rw [hji28] at A22)
         (try (have hji28l : 0 ≤ ji28 := by (rw [← hji28]; unfold mx; (repeat' split) <;> omega)))
         (try (have hji28m : 0 ≤ ji28 := by omega))
         have hji28_ : (if t369 < 0 then 0 else t369) = ji28 := hji28
         by_cases c29 : t370 = (ji28)
         ·rw [if_pos c29] at H
          have c29b0 : (t370 == (ji28)) = true := beq_iff_eq.mpr c29
          have c29b1 : (t370 != (ji28)) = false := bne_eq_false_iff_eq.mpr c29
          clear c29
          have H' := Aside0.mk H
          clear H
          have p368 : 0 ≤ (x42_1 : Int) := of_decide_eq_true (by first | (with_reducible assumption) | assumption)
          have q368 : x42_1 < (y364.length : Int) := of_decide_eq_true (by first | (with_reducible assumption) | assumption)
          obtain ⟨ad368, e368, hx368_0⟩ := Kd.at_int (Kd.R_reads' HO_40.out).2.2 x42_1 p368 q368
          cases e368
          replace p368 := eq_true p368
          replace q368 := eq_true q368
          have hcz30_0 : wr.cell? ⟨gb361, 0, none⟩ = some (.slice (some ad362) t357.length co11) := (blk_cell BK361.out 0).trans rfl
          have hcz30_1 : wr.cell? ⟨gb361, 1, none⟩ = some (.int .i32 t360) := (blk_cell BK361.out 1).trans rfl
          have hfz30_0 := blk_frozen BK361.out 0
          have hfz30_1 := blk_frozen BK361.out 1
          go_wp2_with (first | ((with_reducible refine gate_callee (f := 17) rfl ?_); refine goesL_ (some 48) rfl rfl Tryz.func17 (by kernel_rfl) rfl #[.agg #[.slice (some ad362) t357.length co11, .int .i32 t360], .int .i32 (rd y364 x42_1)] rfl (by (try simp only [List.map_toArray, List.map_cons, List.map_nil]); first | done | rfl | (simp only [List.length_drop, List.length_take]; rfl)) ?_; (with_reducible refine (transposallaw08_Period.calls k1 _ _ t357 t360 (rd y364 x42_1) t369 _ ?side1 ?side2 A21.out).mono ?_); (case side1 => repeat (first | exact (Kd.R_reads' HO_362000.out).2.2 | (with_reducible refine Kd.C_alloc ?_ _) | (with_reducible refine Kd.C_drewN ?_ _) | (with_reducible refine Kd.C_drew ?_))); (case side2 => exact (Kd.R_reads' HO_362000.out).2.1); rintro e w31 ⟨rfl, hb⟩; refine ⟨_, rfl, ?_⟩; have n0_ := Aside0.mk (Kd.R_below (by (with_reducible repeat (first | apply Kd.R_alloc | apply Kd.R_drewN | apply Kd.R_drew)); exact HO_40.out) hb); have n1_ := Aside0.mk (Kd.R_below (by (with_reducible repeat (first | apply Kd.R_alloc | apply Kd.R_drewN | apply Kd.R_drew)); exact HO_362000.out) hb); have n2_ := Aside0.mk (blk_below (g := gb361) (o := .cells #[.slice (some ad362) t357.length co11, .int .i32 t360] 28 (0, 0)) (by (with_reducible repeat (first | refine blk_drewN ?_ _ | refine blk_drew ?_ | refine blk_alloc ?_ _)); exact BK361.out) hb); have n3_ := Aside0.mk (below_step (by repeat (first | (with_reducible first | exact HB.out | apply below_alloc | apply pw_below_drewN | apply below_drew1 | refine below_set ?_ GE361.out) | exact HB.out)) hb); clear HO_40; clear HO_362000; clear BK361; clear HB; have HO_40 := n0_; have HO_362000 := n1_; have BK361 := n2_; have HB := n3_; clear n0_ n1_ n2_ n3_; (try clear hb); (try clear hb2); (try clear hk); (try clear hi); have hcz32_0 : w31.cell? ⟨gb361, 0, none⟩ = some (.slice (some ad362) t357.length co11) := (blk_cell BK361.out 0).trans rfl; have hcz32_1 : w31.cell? ⟨gb361, 1, none⟩ = some (.int .i32 t360) := (blk_cell BK361.out 1).trans rfl; have hfz32_0 := blk_frozen BK361.out 0; have hfz32_1 := blk_frozen BK361.out 1) | ((with_reducible refine gate_callee (f := 15) rfl ?_); refine goesL_ (some 52) rfl rfl Tryz.func15 (by kernel_rfl) rfl #[.agg #[.slice (some ad362) t357.length co11, .int .i32 t360], .int .i32 (rd y364 x42_1)] rfl (by (try simp only [List.map_toArray, List.map_cons, List.map_nil]); first | done | rfl | (simp only [List.length_drop, List.length_take]; rfl)) ?_; (with_reducible refine (calendar_Calendar_Period.calls k1 _ _ t357 t360 (rd y364 x42_1) t370 t371 _ ?side1 ?side2 A22.out).mono ?_); (case side1 => repeat (first | exact (Kd.R_reads' HO_362000.out).2.2 | (with_reducible refine Kd.C_alloc ?_ _) | (with_reducible refine Kd.C_drewN ?_ _) | (with_reducible refine Kd.C_drew ?_))); (case side2 => exact (Kd.R_reads' HO_362000.out).2.1); rintro e w33 ⟨rfl, hb⟩; refine ⟨_, rfl, ?_⟩; have n0_ := Aside0.mk (Kd.R_below (by (with_reducible repeat (first | apply Kd.R_alloc | apply Kd.R_drewN | apply Kd.R_drew)); exact HO_40.out) hb); have n1_ := Aside0.mk (Kd.R_below (by (with_reducible repeat (first | apply Kd.R_alloc | apply Kd.R_drewN | apply Kd.R_drew)); exact HO_362000.out) hb); have n2_ := Aside0.mk (blk_below (g := gb361) (o := .cells #[.slice (some ad362) t357.length co11, .int .i32 t360] 28 (0, 0)) (by (with_reducible repeat (first | refine blk_drewN ?_ _ | refine blk_drew ?_ | refine blk_alloc ?_ _)); exact BK361.out) hb); have n3_ := Aside0.mk (below_step (by repeat (first | (with_reducible first | exact HB.out | apply below_alloc | apply pw_below_drewN | apply below_drew1 | refine below_set ?_ GE361.out) | exact HB.out)) hb); clear HO_40; clear HO_362000; clear BK361; clear HB; have HO_40 := n0_; have HO_362000 := n1_; have BK361 := n2_; have HB := n3_; clear n0_ n1_ n2_ n3_; (try clear hb); (try clear hb2); (try clear hk); (try clear hi)))
          go_roundg k1
          case measure => have := HK1.out; omega
          case rel => exact ⟨(wrap64 (x42_1 + 1)), (by first | rfl | (simp; done) | (simp [*]; done)), H', ⟨by have := HK1.out; omega⟩, ⟨by (with_reducible repeat (first | apply Kd.R_alloc | apply Kd.R_drewN | apply Kd.R_drew)); exact HO_40.out⟩, ⟨by (with_reducible repeat (first | apply Kd.R_alloc | apply Kd.R_drewN | apply Kd.R_drew)); exact HO_362000.out⟩, ⟨by (with_reducible repeat (first | refine blk_drewN ?_ _ | refine blk_drew ?_ | refine blk_alloc ?_ _)); exact BK361.out⟩, ⟨by repeat (first | (with_reducible first | exact HB.out | apply below_alloc | apply pw_below_drewN | apply below_drew1 | refine below_set ?_ GE361.out) | exact HB.out)⟩⟩
         ·rw [if_neg c29] at H
          have c29b0 : (t370 == (ji28)) = false := beq_eq_false_iff_ne.mpr c29
          have c29b1 : (t370 != (ji28)) = true := bne_iff_ne.mpr c29
          obtain rfl := Option.some.inj H
          have p368 : 0 ≤ (x42_1 : Int) := of_decide_eq_true (by first | (with_reducible assumption) | assumption)
          have q368 : x42_1 < (y364.length : Int) := of_decide_eq_true (by first | (with_reducible assumption) | assumption)
          obtain ⟨ad368, e368, hx368_0⟩ := Kd.at_int (Kd.R_reads' HO_40.out).2.2 x42_1 p368 q368
          cases e368
          replace p368 := eq_true p368
          replace q368 := eq_true q368
          have hcz34_0 : wr.cell? ⟨gb361, 0, none⟩ = some (.slice (some ad362) t357.length co11) := (blk_cell BK361.out 0).trans rfl
          have hcz34_1 : wr.cell? ⟨gb361, 1, none⟩ = some (.int .i32 t360) := (blk_cell BK361.out 1).trans rfl
          have hfz34_0 := blk_frozen BK361.out 0
          have hfz34_1 := blk_frozen BK361.out 1
          go_wp2_with (first | ((with_reducible refine gate_callee (f := 17) rfl ?_); refine goesL_ (some 48) rfl rfl Tryz.func17 (by kernel_rfl) rfl #[.agg #[.slice (some ad362) t357.length co11, .int .i32 t360], .int .i32 (rd y364 x42_1)] rfl (by (try simp only [List.map_toArray, List.map_cons, List.map_nil]); first | done | rfl | (simp only [List.length_drop, List.length_take]; rfl)) ?_; (with_reducible refine (transposallaw08_Period.calls k1 _ _ t357 t360 (rd y364 x42_1) t369 _ ?side1 ?side2 A21.out).mono ?_); (case side1 => repeat (first | exact (Kd.R_reads' HO_362000.out).2.2 | (with_reducible refine Kd.C_alloc ?_ _) | (with_reducible refine Kd.C_drewN ?_ _) | (with_reducible refine Kd.C_drew ?_))); (case side2 => exact (Kd.R_reads' HO_362000.out).2.1); rintro e w35 ⟨rfl, hb⟩; refine ⟨_, rfl, ?_⟩; have n0_ := Aside0.mk (Kd.R_below (by (with_reducible repeat (first | apply Kd.R_alloc | apply Kd.R_drewN | apply Kd.R_drew)); exact HO_40.out) hb); have n1_ := Aside0.mk (Kd.R_below (by (with_reducible repeat (first | apply Kd.R_alloc | apply Kd.R_drewN | apply Kd.R_drew)); exact HO_362000.out) hb); have n2_ := Aside0.mk (blk_below (g := gb361) (o := .cells #[.slice (some ad362) t357.length co11, .int .i32 t360] 28 (0, 0)) (by (with_reducible repeat (first | refine blk_drewN ?_ _ | refine blk_drew ?_ | refine blk_alloc ?_ _)); exact BK361.out) hb); have n3_ := Aside0.mk (below_step (by repeat (first | (with_reducible first | exact HB.out | apply below_alloc | apply pw_below_drewN | apply below_drew1 | refine below_set ?_ GE361.out) | exact HB.out)) hb); clear HO_40; clear HO_362000; clear BK361; clear HB; have HO_40 := n0_; have HO_362000 := n1_; have BK361 := n2_; have HB := n3_; clear n0_ n1_ n2_ n3_; (try clear hb); (try clear hb2); (try clear hk); (try clear hi); have hcz36_0 : w35.cell? ⟨gb361, 0, none⟩ = some (.slice (some ad362) t357.length co11) := (blk_cell BK361.out 0).trans rfl; have hcz36_1 : w35.cell? ⟨gb361, 1, none⟩ = some (.int .i32 t360) := (blk_cell BK361.out 1).trans rfl; have hfz36_0 := blk_frozen BK361.out 0; have hfz36_1 := blk_frozen BK361.out 1) | ((with_reducible refine gate_callee (f := 15) rfl ?_); refine goesL_ (some 52) rfl rfl Tryz.func15 (by kernel_rfl) rfl #[.agg #[.slice (some ad362) t357.length co11, .int .i32 t360], .int .i32 (rd y364 x42_1)] rfl (by (try simp only [List.map_toArray, List.map_cons, List.map_nil]); first | done | rfl | (simp only [List.length_drop, List.length_take]; rfl)) ?_; (with_reducible refine (calendar_Calendar_Period.calls k1 _ _ t357 t360 (rd y364 x42_1) t370 t371 _ ?side1 ?side2 A22.out).mono ?_); (case side1 => repeat (first | exact (Kd.R_reads' HO_362000.out).2.2 | (with_reducible refine Kd.C_alloc ?_ _) | (with_reducible refine Kd.C_drewN ?_ _) | (with_reducible refine Kd.C_drew ?_))); (case side2 => exact (Kd.R_reads' HO_362000.out).2.1); rintro e w37 ⟨rfl, hb⟩; refine ⟨_, rfl, ?_⟩; have n0_ := Aside0.mk (Kd.R_below (by (with_reducible repeat (first | apply Kd.R_alloc | apply Kd.R_drewN | apply Kd.R_drew)); exact HO_40.out) hb); have n1_ := Aside0.mk (Kd.R_below (by (with_reducible repeat (first | apply Kd.R_alloc | apply Kd.R_drewN | apply Kd.R_drew)); exact HO_362000.out) hb); have n2_ := Aside0.mk (blk_below (g := gb361) (o := .cells #[.slice (some ad362) t357.length co11, .int .i32 t360] 28 (0, 0)) (by (with_reducible repeat (first | refine blk_drewN ?_ _ | refine blk_drew ?_ | refine blk_alloc ?_ _)); exact BK361.out) hb); have n3_ := Aside0.mk (below_step (by repeat (first | (with_reducible first | exact HB.out | apply below_alloc | apply pw_below_drewN | apply below_drew1 | refine below_set ?_ GE361.out) | exact HB.out)) hb); clear HO_40; clear HO_362000; clear BK361; clear HB; have HO_40 := n0_; have HO_362000 := n1_; have BK361 := n2_; have HB := n3_; clear n0_ n1_ n2_ n3_; (try clear hb); (try clear hb2); (try clear hk); (try clear hi)))
          go_ret
          exact ⟨by first | rfl | (simp [errW_none, errW_some] <;> rfl) | (simp only [← hji28]; first | rfl | (simp [errW_none, errW_some] <;> rfl)) | (simp [*, errW_none, errW_some] <;> rfl), by repeat (first | (with_reducible first | exact HB.out | apply below_alloc | apply pw_below_drewN | apply below_drew1 | refine below_set ?_ GE361.out) | exact HB.out)⟩
       ·rw [if_neg c20] at H
        exact absurd H (by simp)
      ·rw [if_neg c19] at H
       exact absurd H (by simp)
     ·rw [if_neg c18] at H
      have c18b0 : decide (x42_1 < (y364.length : Int)) = false := decide_eq_false c18
      clear c18
      replace H := Option.bind_eq_some_iff.mp H
      obtain ⟨t367, A380, H⟩ := H
      replace H : (some (t367 == 0)) = some r := H
      have A38 := Aside0.mk A380
      clear A380
      obtain rfl := Option.some.inj H
      have hcz39_0 : wr.cell? ⟨gb361, 0, none⟩ = some (.slice (some ad362) t357.length co11) := (blk_cell BK361.out 0).trans rfl
      have hcz39_1 : wr.cell? ⟨gb361, 1, none⟩ = some (.int .i32 t360) := (blk_cell BK361.out 1).trans rfl
      have hfz39_0 := blk_frozen BK361.out 0
      have hfz39_1 := blk_frozen BK361.out 1
      go_wp2_with (first | ((with_reducible refine gate_callee (f := 18) rfl ?_); refine goesL_ (some 67) rfl rfl Tryz.func18 (by kernel_rfl) rfl #[.agg #[.slice (some ad362) t357.length co11, .int .i32 t360]] rfl (by (try simp only [List.map_toArray, List.map_cons, List.map_nil]); first | done | rfl | (simp only [List.length_drop, List.length_take]; rfl)) ?_; (with_reducible refine (calendar_Calendar_Check.calls k1 _ _ t357 t360 t367 _ ?side1 ?side2 ?side3 A38.out).mono ?_); (case side1 => repeat (first | exact (Kd.R_reads' HO_362000.out).2.2 | (with_reducible refine Kd.C_alloc ?_ _) | (with_reducible refine Kd.C_drewN ?_ _) | (with_reducible refine Kd.C_drew ?_))); (case side2 => exact (Kd.R_reads' HO_362000.out).2.1); (case side3 => exact Glob.below (by repeat (first | (with_reducible first | exact HB.out | apply below_alloc | apply pw_below_drewN | apply below_drew1 | refine below_set ?_ GE361.out) | exact HB.out)) HG.out); rintro e w40 ⟨rfl, hb⟩; refine ⟨_, rfl, ?_⟩; have n0_ := Aside0.mk (Kd.R_below (by (with_reducible repeat (first | apply Kd.R_alloc | apply Kd.R_drewN | apply Kd.R_drew)); exact HO_40.out) hb); have n1_ := Aside0.mk (Kd.R_below (by (with_reducible repeat (first | apply Kd.R_alloc | apply Kd.R_drewN | apply Kd.R_drew)); exact HO_362000.out) hb); have n2_ := Aside0.mk (blk_below (g := gb361) (o := .cells #[.slice (some ad362) t357.length co11, .int .i32 t360] 28 (0, 0)) (by (with_reducible repeat (first | refine blk_drewN ?_ _ | refine blk_drew ?_ | refine blk_alloc ?_ _)); exact BK361.out) hb); have n3_ := Aside0.mk (below_step (by repeat (first | (with_reducible first | exact HB.out | apply below_alloc | apply pw_below_drewN | apply below_drew1 | refine below_set ?_ GE361.out) | exact HB.out)) hb); clear HO_40; clear HO_362000; clear BK361; clear HB; have HO_40 := n0_; have HO_362000 := n1_; have BK361 := n2_; have HB := n3_; clear n0_ n1_ n2_ n3_; (try clear hb); (try clear hb2); (try clear hk); (try clear hi)))
      go_ret
      exact ⟨by first | rfl | (simp [errW_none, errW_some] <;> rfl) | (simp [*, errW_none, errW_some] <;> rfl), by repeat (first | (with_reducible first | exact HB.out | apply below_alloc | apply pw_below_drewN | apply below_drew1 | refine below_set ?_ GE361.out) | exact HB.out)⟩
  ·rw [if_neg c7] at H
   exact absurd H (by simp)
 ·replace c5 := Bool.eq_false_iff.mpr c5
  subst c5
  have H1 : (some false) = some r := by rw [if_neg (show ¬ (false = true) by decide)] at H; exact H
  clear H
  have H := H1
  clear H1
  obtain rfl := Option.some.inj H
  go_enter Tryz.func5, Tryz.ntmps5
  go_wp2_with (first | ((with_reducible refine gate_callee (f := 12) rfl ?_); refine goesL_ (some 13) rfl rfl Tryz.func12 (by kernel_rfl) rfl #[] rfl (by (try simp only [List.map_toArray, List.map_cons, List.map_nil]); first | done | rfl | (simp only [List.length_drop, List.length_take]; rfl)) ?_; (with_reducible refine (transposallaw08_Awake.calls k  false _ ?side1 A4.out).mono ?_); (case side1 => exact Glob.below (by repeat (first | (with_reducible first | exact HB.out | apply below_alloc | apply pw_below_drewN | apply below_drew1) | exact HB.out)) HG.out); rintro e w41 ⟨rfl, hb⟩; refine ⟨_, rfl, ?_⟩; have n0_ := Aside0.mk (below_step (by repeat (first | (with_reducible first | exact HB.out | apply below_alloc | apply pw_below_drewN | apply below_drew1) | exact HB.out)) hb); clear HB; have HB := n0_; clear n0_; (try clear hb); (try clear hb2); (try clear hk); (try clear hi)))
  go_ret
  exact ⟨by first | rfl | (simp [errW_none, errW_some] <;> rfl) | (simp [*, errW_none, errW_some] <;> rfl), by repeat (first | (with_reducible first | exact HB.out | apply below_alloc | apply pw_below_drewN | apply below_drew1) | exact HB.out)⟩

/-- THE ONE PURE STATEMENT of transposallaw08_CalendarPeriods: yours. -/
def transposallaw08_CalendarPeriods.Pure : Prop := ∀ (a0 : Int) (l1 : List Int) (a2 : Int), (Lit.int .i16 a0).wf = true → l1.length ≤ maxLen → l1.length * 1 ≤ 140737488351232 → (∀ x ∈ l1, (Lit.int .u8 x).wf = true) → (Lit.int .i16 a2).wf = true → ∃ k, transposallaw08_CalendarPeriods.f k a0 l1 a2 = some true

end Go.Proofs.YtfpfilmdlconhaaGreatDoor.XA
