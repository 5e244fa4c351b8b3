-- Written by a program of this session's (wip/xp) out of the translation; given functions by hand.
import Derived.Test.YtddaogebacigbaaGreatDoorXA0
import Derived.Test.YtddaogebacigbaaGreatDoorXA1
import Derived.Test.YtddaogebacigbaaGreatDoorXA10
namespace Go.Proofs.YtddaogebacigbaaGreatDoor.XA
open Go.RowKit Go.Proofs.YtddaogebacigbaaGreatDoorW.PrintWords Go.Proofs.YtddaogebacigbaaGreatDoorW.PrintLast Go.Proofs.YtddaogebacigbaaGreatDoorW.PrintMore
attribute [local go_sem] max2_int min2_int max_two min_two max_three min_three max_four min_four   -- for this text's walks alone
set_option linter.unusedVariables false
set_option linter.unusedSimpArgs false

attribute [local go_sem high] eqA28
/-! ### transposallaw09_EntrySames: function 6 -/
mutual
def transposallaw09_EntrySames.j0 : Nat → Int → Int → List (S28) → List (S28) → Bool → Int → Bool → Option (Bool)
 | 0, _, _, _, _, _, _, _ => none
 | k + 1, x0, x1, x2, x3, x4, x5, x24 => if x24 = true then (some true) else (if x4 = true then ((entry_Line_14.f x2).bind fun t301 => (if (t301.length : Int) > 0 then (transposallaw09_EntrySames.j1 k x0 x0 x2 t301 x5 ((Int.tmod x5 2) == 1)) else (transposallaw09_EntrySames.j1 k x0 x0 x2 t301 x5 false))) else (if x0 = x1 then (transposallaw09_EntrySames.j5 k x0 x1 x2 x3 ((x2.length : Int) == (x3.length : Int))) else (transposallaw09_EntrySames.j5 k x0 x1 x2 x3 false)))
def transposallaw09_EntrySames.j1 : Nat → Int → Int → List (S28) → List (S28) → Int → Bool → Option (Bool)
 | 0, _, _, _, _, _, _ => none
 | k + 1, x0, x1, x2, x3, x5, x36 => if x36 = true then (if (x3.length : Int) = 0 then (none) else (if 0 ≤ (Int.tmod (wrap64 (x5)) (x3.length : Int)) then (if (Int.tmod (wrap64 (x5)) (x3.length : Int)) < (x3.length : Int) then (transposallaw09_EntrySames.j2 k x0 x1 x2 (x3.set ((Int.tmod (wrap64 (x5)) (x3.length : Int)) : Int).toNat (⟨(rd_T28 x3 (Int.tmod (wrap64 (x5)) (x3.length : Int))).f0, (rd_T28 x3 (Int.tmod (wrap64 (x5)) (x3.length : Int))).f1, (rd_T28 x3 (Int.tmod (wrap64 (x5)) (x3.length : Int))).f2, Go.bits .xor .i64 ((rd_T28 x3 (Int.tmod (wrap64 (x5)) (x3.length : Int))).f3) (wrap64 (Int.tmod x5 4))⟩ : S28))) else (none)) else (none))) else (transposallaw09_EntrySames.j2 k x0 x1 x2 x3)
def transposallaw09_EntrySames.j2 : Nat → Int → Int → List (S28) → List (S28) → Option (Bool)
 | 0, _, _, _, _ => none
 | k + 1, x0, x1, x2, x3 => if x0 = x1 then (transposallaw09_EntrySames.j3 k x0 x1 x2 x3 ((x2.length : Int) == (x3.length : Int))) else (transposallaw09_EntrySames.j3 k x0 x1 x2 x3 false)
def transposallaw09_EntrySames.j3 : Nat → Int → Int → List (S28) → List (S28) → Bool → Option (Bool)
 | 0, _, _, _, _, _ => none
 | k + 1, x0, x1, x2, x3, x13 => transposallaw09_EntrySames.l0 k x0 x1 x2 x3 x13 (mn (x2.length : Int) (x3.length : Int)) 0
def transposallaw09_EntrySames.l0 : Nat → Int → Int → List (S28) → List (S28) → Bool → Int → Int → Option (Bool)
 | 0, _, _, _, _, _, _, _ => none
 | k + 1, x0, x1, x2, x3, x13, x66, x67 => if x67 < x66 then (if x13 = true then (if 0 ≤ x67 then (if x67 < (x2.length : Int) then (if x67 < (x3.length : Int) then (transposallaw09_EntrySames.l0 k x0 x1 x2 x3 (((rd_T28 x2 x67).f0) == ((rd_T28 x3 x67).f0) && (((rd_T28 x2 x67).f1) == ((rd_T28 x3 x67).f1) && (((rd_T28 x2 x67).f2) == ((rd_T28 x3 x67).f2) && (((rd_T28 x2 x67).f3) == ((rd_T28 x3 x67).f3))))) x66 (wrap64 (x67 + 1))) else (none)) else (none)) else (none)) else (transposallaw09_EntrySames.l0 k x0 x1 x2 x3 false x66 (wrap64 (x67 + 1)))) else ((entry_Same.f k (wrap32 (x0)) x2 (wrap32 (x1)) x3).bind fun t308 => (some (t308 == x13)))
def transposallaw09_EntrySames.j5 : Nat → Int → Int → List (S28) → List (S28) → Bool → Option (Bool)
 | 0, _, _, _, _, _ => none
 | k + 1, x0, x1, x2, x3, x13 => transposallaw09_EntrySames.l1 k x0 x1 x2 x3 x13 (mn (x2.length : Int) (x3.length : Int)) 0
def transposallaw09_EntrySames.l1 : Nat → Int → Int → List (S28) → List (S28) → Bool → Int → Int → Option (Bool)
 | 0, _, _, _, _, _, _, _ => none
 | k + 1, x0, x1, x2, x3, x13, x66, x67 => if x67 < x66 then (if x13 = true then (if 0 ≤ x67 then (if x67 < (x2.length : Int) then (if x67 < (x3.length : Int) then (transposallaw09_EntrySames.l1 k x0 x1 x2 x3 (((rd_T28 x2 x67).f0) == ((rd_T28 x3 x67).f0) && (((rd_T28 x2 x67).f1) == ((rd_T28 x3 x67).f1) && (((rd_T28 x2 x67).f2) == ((rd_T28 x3 x67).f2) && (((rd_T28 x2 x67).f3) == ((rd_T28 x3 x67).f3))))) x66 (wrap64 (x67 + 1))) else (none)) else (none)) else (none)) else (transposallaw09_EntrySames.l1 k x0 x1 x2 x3 false x66 (wrap64 (x67 + 1)))) else ((entry_Same.f k (wrap32 (x0)) x2 (wrap32 (x1)) x3).bind fun t311 => (some (t311 == x13)))
end
def transposallaw09_EntrySames.f (k : Nat) (a0 : Int) (a1 : Int) (l2 : List (S28)) (l3 : List (S28)) (a4 : Bool) (a5 : Int) : Option (Bool) := (transposallaw09_Awake.f k).bind fun t300 => (if t300 = true then (if (l2.length : Int) > 40 then (transposallaw09_EntrySames.j0 k a0 a1 l2 l3 a4 a5 true) else (transposallaw09_EntrySames.j0 k a0 a1 l2 l3 a4 a5 (decide ((l3.length : Int) > 40)))) else (some false))
theorem transposallaw09_EntrySames.mono_l : ∀ k, (∀ y0 y1 y2 y3 y4 y5 y6, LeO (transposallaw09_EntrySames.j0 k y0 y1 y2 y3 y4 y5 y6) (transposallaw09_EntrySames.j0 (k + 1) y0 y1 y2 y3 y4 y5 y6)) ∧ (∀ y0 y1 y2 y3 y4 y5, LeO (transposallaw09_EntrySames.j1 k y0 y1 y2 y3 y4 y5) (transposallaw09_EntrySames.j1 (k + 1) y0 y1 y2 y3 y4 y5)) ∧ (∀ y0 y1 y2 y3, LeO (transposallaw09_EntrySames.j2 k y0 y1 y2 y3) (transposallaw09_EntrySames.j2 (k + 1) y0 y1 y2 y3)) ∧ (∀ y0 y1 y2 y3 y4, LeO (transposallaw09_EntrySames.j3 k y0 y1 y2 y3 y4) (transposallaw09_EntrySames.j3 (k + 1) y0 y1 y2 y3 y4)) ∧ (∀ y0 y1 y2 y3 y4 y5 y6, LeO (transposallaw09_EntrySames.l0 k y0 y1 y2 y3 y4 y5 y6) (transposallaw09_EntrySames.l0 (k + 1) y0 y1 y2 y3 y4 y5 y6)) ∧ (∀ y0 y1 y2 y3 y4, LeO (transposallaw09_EntrySames.j5 k y0 y1 y2 y3 y4) (transposallaw09_EntrySames.j5 (k + 1) y0 y1 y2 y3 y4)) ∧ (∀ y0 y1 y2 y3 y4 y5 y6, LeO (transposallaw09_EntrySames.l1 k y0 y1 y2 y3 y4 y5 y6) (transposallaw09_EntrySames.l1 (k + 1) y0 y1 y2 y3 y4 y5 y6))
 | 0 => ⟨fun _ _ _ _ _ _ _ r h => by simp [transposallaw09_EntrySames.j0] at h, fun _ _ _ _ _ _ r h => by simp [transposallaw09_EntrySames.j1] at h, fun _ _ _ _ r h => by simp [transposallaw09_EntrySames.j2] at h, fun _ _ _ _ _ r h => by simp [transposallaw09_EntrySames.j3] at h, fun _ _ _ _ _ _ _ r h => by simp [transposallaw09_EntrySames.l0] at h, fun _ _ _ _ _ r h => by simp [transposallaw09_EntrySames.j5] at h, fun _ _ _ _ _ _ _ r h => by simp [transposallaw09_EntrySames.l1] at h⟩
 | k + 1 => by
  obtain ⟨ih0, ih1, ih2, ih3, ih4, ih5, ih6⟩ := transposallaw09_EntrySames.mono_l k
  refine ⟨?_, ?_, ?_, ?_, ?_, ?_, ?_⟩
  ·intro y0 y1 y2 y3 y4 y5 y6
   unfold transposallaw09_EntrySames.j0
   repeat' first
   | (with_reducible exact ih0 _ _ _ _ _ _ _)
   | (with_reducible exact ih1 _ _ _ _ _ _)
   | (with_reducible exact ih2 _ _ _ _)
   | (with_reducible exact ih3 _ _ _ _ _)
   | (with_reducible exact ih4 _ _ _ _ _ _ _)
   | (with_reducible exact ih5 _ _ _ _ _)
   | (with_reducible exact ih6 _ _ _ _ _ _ _)
   | (with_reducible exact entry_Same.mono _ _ _ _ _)
   | (with_reducible exact transposallaw09_Awake.mono _)
   | (with_reducible exact LeO.refl _)
   | (with_reducible exact LeO.none _)
   | (with_reducible refine LeO.ite ?_ ?_)
   | (with_reducible refine LeO.bind ?_ (fun _ => ?_))
   | exact ih0 _ _ _ _ _ _ _
   | exact ih1 _ _ _ _ _ _
   | exact ih2 _ _ _ _
   | exact ih3 _ _ _ _ _
   | exact ih4 _ _ _ _ _ _ _
   | exact ih5 _ _ _ _ _
   | exact ih6 _ _ _ _ _ _ _
   | exact entry_Same.mono _ _ _ _ _
   | exact transposallaw09_Awake.mono _
   | exact LeO.none _
   | refine LeO.ite ?_ ?_
   | refine LeO.bind ?_ (fun _ => ?_)
  ·intro y0 y1 y2 y3 y4 y5
   unfold transposallaw09_EntrySames.j1
   repeat' first
   | (with_reducible exact ih0 _ _ _ _ _ _ _)
   | (with_reducible exact ih1 _ _ _ _ _ _)
   | (with_reducible exact ih2 _ _ _ _)
   | (with_reducible exact ih3 _ _ _ _ _)
   | (with_reducible exact ih4 _ _ _ _ _ _ _)
   | (with_reducible exact ih5 _ _ _ _ _)
   | (with_reducible exact ih6 _ _ _ _ _ _ _)
   | (with_reducible exact entry_Same.mono _ _ _ _ _)
   | (with_reducible exact transposallaw09_Awake.mono _)
   | (with_reducible exact LeO.refl _)
   | (with_reducible exact LeO.none _)
   | (with_reducible refine LeO.ite ?_ ?_)
   | (with_reducible refine LeO.bind ?_ (fun _ => ?_))
   | exact ih0 _ _ _ _ _ _ _
   | exact ih1 _ _ _ _ _ _
   | exact ih2 _ _ _ _
   | exact ih3 _ _ _ _ _
   | exact ih4 _ _ _ _ _ _ _
   | exact ih5 _ _ _ _ _
   | exact ih6 _ _ _ _ _ _ _
   | exact entry_Same.mono _ _ _ _ _
   | exact transposallaw09_Awake.mono _
   | exact LeO.none _
   | refine LeO.ite ?_ ?_
   | refine LeO.bind ?_ (fun _ => ?_)
  ·intro y0 y1 y2 y3
   unfold transposallaw09_EntrySames.j2
   repeat' first
   | (with_reducible exact ih0 _ _ _ _ _ _ _)
   | (with_reducible exact ih1 _ _ _ _ _ _)
   | (with_reducible exact ih2 _ _ _ _)
   | (with_reducible exact ih3 _ _ _ _ _)
   | (with_reducible exact ih4 _ _ _ _ _ _ _)
   | (with_reducible exact ih5 _ _ _ _ _)
   | (with_reducible exact ih6 _ _ _ _ _ _ _)
   | (with_reducible exact entry_Same.mono _ _ _ _ _)
   | (with_reducible exact transposallaw09_Awake.mono _)
   | (with_reducible exact LeO.refl _)
   | (with_reducible exact LeO.none _)
   | (with_reducible refine LeO.ite ?_ ?_)
   | (with_reducible refine LeO.bind ?_ (fun _ => ?_))
   | exact ih0 _ _ _ _ _ _ _
   | exact ih1 _ _ _ _ _ _
   | exact ih2 _ _ _ _
   | exact ih3 _ _ _ _ _
   | exact ih4 _ _ _ _ _ _ _
   | exact ih5 _ _ _ _ _
   | exact ih6 _ _ _ _ _ _ _
   | exact entry_Same.mono _ _ _ _ _
   | exact transposallaw09_Awake.mono _
   | exact LeO.none _
   | refine LeO.ite ?_ ?_
   | refine LeO.bind ?_ (fun _ => ?_)
  ·intro y0 y1 y2 y3 y4
   unfold transposallaw09_EntrySames.j3
   repeat' first
   | (with_reducible exact ih0 _ _ _ _ _ _ _)
   | (with_reducible exact ih1 _ _ _ _ _ _)
   | (with_reducible exact ih2 _ _ _ _)
   | (with_reducible exact ih3 _ _ _ _ _)
   | (with_reducible exact ih4 _ _ _ _ _ _ _)
   | (with_reducible exact ih5 _ _ _ _ _)
   | (with_reducible exact ih6 _ _ _ _ _ _ _)
   | (with_reducible exact entry_Same.mono _ _ _ _ _)
   | (with_reducible exact transposallaw09_Awake.mono _)
   | (with_reducible exact LeO.refl _)
   | (with_reducible exact LeO.none _)
   | (with_reducible refine LeO.ite ?_ ?_)
   | (with_reducible refine LeO.bind ?_ (fun _ => ?_))
   | exact ih0 _ _ _ _ _ _ _
   | exact ih1 _ _ _ _ _ _
   | exact ih2 _ _ _ _
   | exact ih3 _ _ _ _ _
   | exact ih4 _ _ _ _ _ _ _
   | exact ih5 _ _ _ _ _
   | exact ih6 _ _ _ _ _ _ _
   | exact entry_Same.mono _ _ _ _ _
   | exact transposallaw09_Awake.mono _
   | exact LeO.none _
   | refine LeO.ite ?_ ?_
   | refine LeO.bind ?_ (fun _ => ?_)
  ·intro y0 y1 y2 y3 y4 y5 y6
   unfold transposallaw09_EntrySames.l0
   repeat' first
   | (with_reducible exact ih0 _ _ _ _ _ _ _)
   | (with_reducible exact ih1 _ _ _ _ _ _)
   | (with_reducible exact ih2 _ _ _ _)
   | (with_reducible exact ih3 _ _ _ _ _)
   | (with_reducible exact ih4 _ _ _ _ _ _ _)
   | (with_reducible exact ih5 _ _ _ _ _)
   | (with_reducible exact ih6 _ _ _ _ _ _ _)
   | (with_reducible exact entry_Same.mono _ _ _ _ _)
   | (with_reducible exact transposallaw09_Awake.mono _)
   | (with_reducible exact LeO.refl _)
   | (with_reducible exact LeO.none _)
   | (with_reducible refine LeO.ite ?_ ?_)
   | (with_reducible refine LeO.bind ?_ (fun _ => ?_))
   | exact ih0 _ _ _ _ _ _ _
   | exact ih1 _ _ _ _ _ _
   | exact ih2 _ _ _ _
   | exact ih3 _ _ _ _ _
   | exact ih4 _ _ _ _ _ _ _
   | exact ih5 _ _ _ _ _
   | exact ih6 _ _ _ _ _ _ _
   | exact entry_Same.mono _ _ _ _ _
   | exact transposallaw09_Awake.mono _
   | exact LeO.none _
   | refine LeO.ite ?_ ?_
   | refine LeO.bind ?_ (fun _ => ?_)
  ·intro y0 y1 y2 y3 y4
   unfold transposallaw09_EntrySames.j5
   repeat' first
   | (with_reducible exact ih0 _ _ _ _ _ _ _)
   | (with_reducible exact ih1 _ _ _ _ _ _)
   | (with_reducible exact ih2 _ _ _ _)
   | (with_reducible exact ih3 _ _ _ _ _)
   | (with_reducible exact ih4 _ _ _ _ _ _ _)
   | (with_reducible exact ih5 _ _ _ _ _)
   | (with_reducible exact ih6 _ _ _ _ _ _ _)
   | (with_reducible exact entry_Same.mono _ _ _ _ _)
   | (with_reducible exact transposallaw09_Awake.mono _)
   | (with_reducible exact LeO.refl _)
   | (with_reducible exact LeO.none _)
   | (with_reducible refine LeO.ite ?_ ?_)
   | (with_reducible refine LeO.bind ?_ (fun _ => ?_))
   | exact ih0 _ _ _ _ _ _ _
   | exact ih1 _ _ _ _ _ _
   | exact ih2 _ _ _ _
   | exact ih3 _ _ _ _ _
   | exact ih4 _ _ _ _ _ _ _
   | exact ih5 _ _ _ _ _
   | exact ih6 _ _ _ _ _ _ _
   | exact entry_Same.mono _ _ _ _ _
   | exact transposallaw09_Awake.mono _
   | exact LeO.none _
   | refine LeO.ite ?_ ?_
   | refine LeO.bind ?_ (fun _ => ?_)
  ·intro y0 y1 y2 y3 y4 y5 y6
   unfold transposallaw09_EntrySames.l1
   repeat' first
   | (with_reducible exact ih0 _ _ _ _ _ _ _)
   | (with_reducible exact ih1 _ _ _ _ _ _)
   | (with_reducible exact ih2 _ _ _ _)
   | (with_reducible exact ih3 _ _ _ _ _)
   | (with_reducible exact ih4 _ _ _ _ _ _ _)
   | (with_reducible exact ih5 _ _ _ _ _)
   | (with_reducible exact ih6 _ _ _ _ _ _ _)
   | (with_reducible exact entry_Same.mono _ _ _ _ _)
   | (with_reducible exact transposallaw09_Awake.mono _)
   | (with_reducible exact LeO.refl _)
   | (with_reducible exact LeO.none _)
   | (with_reducible refine LeO.ite ?_ ?_)
   | (with_reducible refine LeO.bind ?_ (fun _ => ?_))
   | exact ih0 _ _ _ _ _ _ _
   | exact ih1 _ _ _ _ _ _
   | exact ih2 _ _ _ _
   | exact ih3 _ _ _ _ _
   | exact ih4 _ _ _ _ _ _ _
   | exact ih5 _ _ _ _ _
   | exact ih6 _ _ _ _ _ _ _
   | exact entry_Same.mono _ _ _ _ _
   | exact transposallaw09_Awake.mono _
   | exact LeO.none _
   | refine LeO.ite ?_ ?_
   | refine LeO.bind ?_ (fun _ => ?_)
theorem transposallaw09_EntrySames.mono : ∀ a0 a1 a2 a3 a4 a5 k, LeO (transposallaw09_EntrySames.f k a0 a1 a2 a3 a4 a5) (transposallaw09_EntrySames.f (k + 1) a0 a1 a2 a3 a4 a5) := by
 intro a0 a1 a2 a3 a4 a5 k
 obtain ⟨ih0, ih1, ih2, ih3, ih4, ih5, ih6⟩ := transposallaw09_EntrySames.mono_l k
 unfold transposallaw09_EntrySames.f
 repeat' first
   | (with_reducible exact ih0 _ _ _ _ _ _ _)
   | (with_reducible exact ih1 _ _ _ _ _ _)
   | (with_reducible exact ih2 _ _ _ _)
   | (with_reducible exact ih3 _ _ _ _ _)
   | (with_reducible exact ih4 _ _ _ _ _ _ _)
   | (with_reducible exact ih5 _ _ _ _ _)
   | (with_reducible exact ih6 _ _ _ _ _ _ _)
   | (with_reducible exact entry_Same.mono _ _ _ _ _)
   | (with_reducible exact transposallaw09_Awake.mono _)
   | (with_reducible exact LeO.refl _)
   | (with_reducible exact LeO.none _)
   | (with_reducible refine LeO.ite ?_ ?_)
   | (with_reducible refine LeO.bind ?_ (fun _ => ?_))
   | exact ih0 _ _ _ _ _ _ _
   | exact ih1 _ _ _ _ _ _
   | exact ih2 _ _ _ _
   | exact ih3 _ _ _ _ _
   | exact ih4 _ _ _ _ _ _ _
   | exact ih5 _ _ _ _ _
   | exact ih6 _ _ _ _ _ _ _
   | exact entry_Same.mono _ _ _ _ _
   | exact transposallaw09_Awake.mono _
   | exact LeO.none _
   | refine LeO.ite ?_ ?_
   | refine LeO.bind ?_ (fun _ => ?_)
set_option maxHeartbeats 8000000 in
set_option maxRecDepth 100000 in
theorem transposallaw09_EntrySames.calls (k : Nat) (a0 : Int) (a1 : Int) (A2 : Option Addr) (c2 : Nat) (l2 : List (S28)) (A3 : Option Addr) (c3 : Nat) (l3 : List (S28)) (a4 : Bool) (a5 : Int) (r : Bool) (w : World) (hr2 : Kd.C k28 w A2 l2.length l2) (hc2 : l2.length ≤ c2) (hr3 : Kd.C k28 w A3 l3.length l3) (hc3 : l3.length ≤ c3) (hG : Glob w) (h : transposallaw09_EntrySames.f k a0 a1 l2 l3 a4 a5 = some r) :
  Calls Tryz.prog 6 #[.int .i16 a0, .int .i16 a1, .slice A2 l2.length c2, .slice A3 l3.length c3, .bool a4, .int .u8 a5] w fun e w' => e = .returned (.bool r) ∧ Below w.heap.size w w' := by
 have hu28 := Tryz.underlying28
 have hu32 := Tryz.underlying32
 have HG := Aside0.mk hG
 clear hG
 have HR2 := Aside0.mk hr2
 have HC2 := Aside0.mk hc2
 clear hr2 hc2
 have HR3 := Aside0.mk hr3
 have HC3 := Aside0.mk hc3
 clear hr3 hc3
 have HB := Aside0.mk (Below.refl w.heap.size w)
 have H : ((transposallaw09_Awake.f k).bind fun t300 => (if t300 = true then (if (l2.length : Int) > 40 then (transposallaw09_EntrySames.j0 k a0 a1 l2 l3 a4 a5 true) else (transposallaw09_EntrySames.j0 k a0 a1 l2 l3 a4 a5 (decide ((l3.length : Int) > 40)))) else (some false))) = some r := h
 clear h
 replace H := Option.bind_eq_some_iff.mp H
 obtain ⟨t300, A70, H⟩ := H
 replace H : (if t300 = true then (if (l2.length : Int) > 40 then (transposallaw09_EntrySames.j0 k a0 a1 l2 l3 a4 a5 true) else (transposallaw09_EntrySames.j0 k a0 a1 l2 l3 a4 a5 (decide ((l3.length : Int) > 40)))) else (some false)) = some r := H
 have A7 := Aside0.mk A70
 clear A70
 by_cases c8 : t300 = true
 ·subst c8
  have H1 : (if (l2.length : Int) > 40 then (transposallaw09_EntrySames.j0 k a0 a1 l2 l3 a4 a5 true) else (transposallaw09_EntrySames.j0 k a0 a1 l2 l3 a4 a5 (decide ((l3.length : Int) > 40)))) = some r := by rw [if_pos rfl] at H; exact H
  clear H
  have H := H1
  clear H1
  have HC9 := Aside0.mk H
  clear H
  go_enter Tryz.func6, Tryz.ntmps6
  go_upto_region 3 with (first | (go_at_call 13; (with_reducible refine (transposallaw09_Awake.calls k  true _ ?side1 A7.out).mono ?_); (case side1 => exact Glob.below (by repeat (first | (with_reducible first | exact HB.out | apply below_alloc | apply pw_below_drewN | apply below_drew1) | exact HB.out)) HG.out); rintro e w10 ⟨rfl, hb⟩; have n0_ := Aside0.mk (below_step (by repeat (first | (with_reducible first | exact HB.out | apply below_alloc | apply pw_below_drewN | apply below_drew1) | exact HB.out)) hb); clear HB; have HB := n0_; clear n0_; (try clear hb); (try clear hb2); (try clear hk); (try clear hi)))
  repeat (go_quiet (first | ((fail_if_success (have z_ := USA7_)); go_at_call 13; (with_reducible refine (transposallaw09_Awake.calls k  true _ ?side1 A7.out).mono ?_); (case side1 => exact Glob.below (by repeat (first | (with_reducible first | exact HB.out | apply below_alloc | apply pw_below_drewN | apply below_drew1) | exact HB.out)) HG.out); rintro e w10 ⟨rfl, hb⟩; have USA7_ := Aside0.mk (rfl : (0 : Nat) = 0); have n0_ := Aside0.mk (below_step (by repeat (first | (with_reducible first | exact HB.out | apply below_alloc | apply pw_below_drewN | apply below_drew1) | exact HB.out)) hb); clear HB; have HB := n0_; clear n0_; (try clear hb); (try clear hb2); (try clear hk); (try clear hi))); go_upto_region 3 with (first | ((fail_if_success (have z_ := USA7_)); go_at_call 13; (with_reducible refine (transposallaw09_Awake.calls k  true _ ?side1 A7.out).mono ?_); (case side1 => exact Glob.below (by repeat (first | (with_reducible first | exact HB.out | apply below_alloc | apply pw_below_drewN | apply below_drew1) | exact HB.out)) HG.out); rintro e w10 ⟨rfl, hb⟩; have USA7_ := Aside0.mk (rfl : (0 : Nat) = 0); have n0_ := Aside0.mk (below_step (by repeat (first | (with_reducible first | exact HB.out | apply below_alloc | apply pw_below_drewN | apply below_drew1) | exact HB.out)) hb); clear HB; have HB := n0_; clear n0_; (try clear hb); (try clear hb2); (try clear hk); (try clear hi))))
  (try simp only [Act.put, List.setIfInBounds_toArray, List.set_cons_zero, List.set_cons_succ])
  go_cut [24] (fun v24 wc => ∃ (kq : Nat) (x24_8 : Bool), v24 = .bool x24_8 ∧ Aside0 (transposallaw09_EntrySames.j0 kq a0 a1 l2 l3 a4 a5 x24_8 = some r) ∧ Aside0 (kq ≤ k) ∧ Aside0 (Below w.heap.size w wc))
  case first =>
   have H := HC9.out
   clear HC9
   by_cases c11 : (l2.length : Int) > 40
   ·rw [if_pos c11] at H
    have c11b0 : decide (40 < (l2.length : Int)) = true := decide_eq_true c11
    have c11b1 : decide (40 < l2.length) = true := decide_eq_true (by omega)
    clear c11
    (first | rw [c11b0] | (simp only [i64_w, i32_w]; rw [c11b0]) | skip)
    have H' := Aside0.mk H
    clear H
    go_wp2
    repeat (go_quiet (fail); try go_wp2)
    go_meet
    case rel => exact ⟨_, (true), (by first | rfl | (simp; done) | (simp [*]; done)), H', ⟨by first | omega | exact Nat.le_refl _⟩, ⟨by repeat (first | (with_reducible first | exact HB.out | apply below_alloc | apply pw_below_drewN | apply below_drew1) | exact HB.out)⟩⟩
   ·rw [if_neg c11] at H
    have c11b0 : decide (40 < (l2.length : Int)) = false := decide_eq_false c11
    have c11b1 : decide (40 < l2.length) = false := decide_eq_false (by omega)
    clear c11
    (first | rw [c11b0] | (simp only [i64_w, i32_w]; rw [c11b0]) | skip)
    have H' := Aside0.mk H
    clear H
    go_wp2
    repeat (go_quiet (fail); try go_wp2)
    go_meet
    case rel => exact ⟨_, (decide ((l3.length : Int) > 40)), (by first | rfl | (simp; done) | (simp [*]; done)), H', ⟨by first | omega | exact Nat.le_refl _⟩, ⟨by repeat (first | (with_reducible first | exact HB.out | apply below_alloc | apply pw_below_drewN | apply below_drew1) | exact HB.out)⟩⟩
  case rest =>
   clear HC9
   try clear c1
   try clear c2
   try clear p2
   try clear c3
   try clear c6
   try clear c8
   try clear c11
   try clear c11b0
   try clear c11b1
   obtain ⟨kq, x24_8, rfl, HA, HJ8, HB⟩ := hcut
   cases kq with
   | zero => exact absurd HA.out (by simp [transposallaw09_EntrySames.j0])
   | succ kj8 =>
    have H := HA.out
    clear HA
    simp only [transposallaw09_EntrySames.j0] at H
    by_cases c12 : x24_8 = true
    ·subst c12
     have H1 : (some true) = some r := by rw [if_pos rfl] at H; exact H
     clear H
     have H := H1
     clear H1
     obtain rfl := Option.some.inj H
     go_wp2
     repeat (go_quiet (fail); try go_wp2)
     go_ret
     exact ⟨by first | rfl | (simp [errW_none, errW_some] <;> rfl) | (simp [*, errW_none, errW_some] <;> rfl), by repeat (first | (with_reducible first | exact HB.out | apply below_alloc | apply pw_below_drewN | apply below_drew1) | exact HB.out)⟩
    ·replace c12 := Bool.eq_false_iff.mpr c12
     subst c12
     have H1 : (if a4 = true then ((entry_Line_14.f l2).bind fun t301 => (if (t301.length : Int) > 0 then (transposallaw09_EntrySames.j1 kj8 a0 a0 l2 t301 a5 ((Int.tmod a5 2) == 1)) else (transposallaw09_EntrySames.j1 kj8 a0 a0 l2 t301 a5 false))) else (if a0 = a1 then (transposallaw09_EntrySames.j5 kj8 a0 a1 l2 l3 ((l2.length : Int) == (l3.length : Int))) else (transposallaw09_EntrySames.j5 kj8 a0 a1 l2 l3 false))) = some r := by rw [if_neg (show ¬ (false = true) by decide)] at H; exact H
     clear H
     have H := H1
     clear H1
     by_cases c13 : a4 = true
     ·subst c13
      have H1 : ((entry_Line_14.f l2).bind fun t301 => (if (t301.length : Int) > 0 then (transposallaw09_EntrySames.j1 kj8 a0 a0 l2 t301 a5 ((Int.tmod a5 2) == 1)) else (transposallaw09_EntrySames.j1 kj8 a0 a0 l2 t301 a5 false))) = some r := by rw [if_pos rfl] at H; exact H
      clear H
      have H := H1
      clear H1
      replace H := Option.bind_eq_some_iff.mp H
      obtain ⟨t301, A140, H⟩ := H
      replace H : (if (t301.length : Int) > 0 then (transposallaw09_EntrySames.j1 kj8 a0 a0 l2 t301 a5 ((Int.tmod a5 2) == 1)) else (transposallaw09_EntrySames.j1 kj8 a0 a0 l2 t301 a5 false)) = some r := H
      have A14 := Aside0.mk A140
      clear A140
      have HC15 := Aside0.mk H
      clear H
      go_upto_region 7 with (first | (go_at_call 14; (with_reducible refine (entry_Line_14.calls _ _ l2 t301 _ ?side1 ?side2 A14.out).mono ?_); (case side1 => repeat (first | exact (Kd.C_below HR2.out HB.out) | (with_reducible refine Kd.C_alloc ?_ _) | (with_reducible refine Kd.C_drewN ?_ _) | (with_reducible refine Kd.C_drew ?_))); (case side2 => exact HC2.out); rintro e w16 ⟨v302, rfl, ho0, hb⟩; have n0_ := Aside0.mk (Kd.R_lower ho0 (below_size (by repeat (first | (with_reducible first | exact HB.out | apply below_alloc | apply pw_below_drewN | apply below_drew1) | exact HB.out)))); have n1_ := Aside0.mk (below_step (by repeat (first | (with_reducible first | exact HB.out | apply below_alloc | apply pw_below_drewN | apply below_drew1) | exact HB.out)) hb); clear HB; have HO303 := n0_; have HB := n1_; clear n0_ n1_; (try clear hb); (try clear hb2); (try clear hk); (try clear hi); (try clear ho0)))
      repeat (go_quiet (first | ((fail_if_success (have z_ := USA14_)); go_at_call 14; (with_reducible refine (entry_Line_14.calls _ _ l2 t301 _ ?side1 ?side2 A14.out).mono ?_); (case side1 => repeat (first | exact (Kd.C_below HR2.out HB.out) | (with_reducible refine Kd.C_alloc ?_ _) | (with_reducible refine Kd.C_drewN ?_ _) | (with_reducible refine Kd.C_drew ?_))); (case side2 => exact HC2.out); rintro e w16 ⟨v302, rfl, ho0, hb⟩; have USA14_ := Aside0.mk (rfl : (0 : Nat) = 0); have n0_ := Aside0.mk (Kd.R_lower ho0 (below_size (by repeat (first | (with_reducible first | exact HB.out | apply below_alloc | apply pw_below_drewN | apply below_drew1) | exact HB.out)))); have n1_ := Aside0.mk (below_step (by repeat (first | (with_reducible first | exact HB.out | apply below_alloc | apply pw_below_drewN | apply below_drew1) | exact HB.out)) hb); clear HB; have HO303 := n0_; have HB := n1_; clear n0_ n1_; (try clear hb); (try clear hb2); (try clear hk); (try clear hi); (try clear ho0))); go_upto_region 7 with (first | ((fail_if_success (have z_ := USA14_)); go_at_call 14; (with_reducible refine (entry_Line_14.calls _ _ l2 t301 _ ?side1 ?side2 A14.out).mono ?_); (case side1 => repeat (first | exact (Kd.C_below HR2.out HB.out) | (with_reducible refine Kd.C_alloc ?_ _) | (with_reducible refine Kd.C_drewN ?_ _) | (with_reducible refine Kd.C_drew ?_))); (case side2 => exact HC2.out); rintro e w16 ⟨v302, rfl, ho0, hb⟩; have USA14_ := Aside0.mk (rfl : (0 : Nat) = 0); have n0_ := Aside0.mk (Kd.R_lower ho0 (below_size (by repeat (first | (with_reducible first | exact HB.out | apply below_alloc | apply pw_below_drewN | apply below_drew1) | exact HB.out)))); have n1_ := Aside0.mk (below_step (by repeat (first | (with_reducible first | exact HB.out | apply below_alloc | apply pw_below_drewN | apply below_drew1) | exact HB.out)) hb); clear HB; have HO303 := n0_; have HB := n1_; clear n0_ n1_; (try clear hb); (try clear hb2); (try clear hk); (try clear hi); (try clear ho0))))
      (try simp only [Act.put, List.setIfInBounds_toArray, List.set_cons_zero, List.set_cons_succ])
      go_cut [36] (fun v36 wc => ∃ (kq : Nat) (x36_14 : Bool), v36 = .bool x36_14 ∧ Aside0 (transposallaw09_EntrySames.j1 kq a0 a0 l2 t301 a5 x36_14 = some r) ∧ Aside0 (kq ≤ kj8) ∧ Aside0 (Kd.R k28 28 wc w.heap.size (fun _ => True) v302 t301) ∧ Aside0 (Below w.heap.size w wc))
      case first =>
       have H := HC15.out
       clear HC15
       by_cases c17 : (t301.length : Int) > 0
       ·rw [if_pos c17] at H
        have c17b0 : decide (0 < (t301.length : Int)) = true := decide_eq_true c17
        have c17b1 : decide (0 < t301.length) = true := decide_eq_true (by omega)
        clear c17
        (first | rw [c17b0] | (simp only [i64_w, i32_w]; rw [c17b0]) | skip)
        have H' := Aside0.mk H
        clear H
        obtain ⟨Ao18, co18, eo18⟩ := Kd.R_slice HO303.out
        subst eo18
        go_wp2
        repeat (go_quiet (fail); try go_wp2)
        go_meet
        case rel => exact ⟨_, (((Int.tmod a5 2) == 1)), (by first | rfl | (simp; done) | (simp [*]; done)), H', ⟨by have := HJ8.out; first | omega | exact Nat.le_refl _⟩, ⟨by (with_reducible repeat (first | apply Kd.R_alloc | apply Kd.R_drewN | apply Kd.R_drew)); exact HO303.out⟩, ⟨by repeat (first | (with_reducible first | exact HB.out | apply below_alloc | apply pw_below_drewN | apply below_drew1) | exact HB.out)⟩⟩
       ·rw [if_neg c17] at H
        have c17b0 : decide (0 < (t301.length : Int)) = false := decide_eq_false c17
        have c17b1 : decide (0 < t301.length) = false := decide_eq_false (by omega)
        clear c17
        (first | rw [c17b0] | (simp only [i64_w, i32_w]; rw [c17b0]) | skip)
        have H' := Aside0.mk H
        clear H
        obtain ⟨Ao19, co19, eo19⟩ := Kd.R_slice HO303.out
        subst eo19
        go_wp2
        repeat (go_quiet (fail); try go_wp2)
        go_meet
        case rel => exact ⟨_, (false), (by first | rfl | (simp; done) | (simp [*]; done)), H', ⟨by have := HJ8.out; first | omega | exact Nat.le_refl _⟩, ⟨by (with_reducible repeat (first | apply Kd.R_alloc | apply Kd.R_drewN | apply Kd.R_drew)); exact HO303.out⟩, ⟨by repeat (first | (with_reducible first | exact HB.out | apply below_alloc | apply pw_below_drewN | apply below_drew1) | exact HB.out)⟩⟩
      case rest =>
       clear HC15
       try clear c1
       try clear c2
       try clear p2
       try clear c3
       try clear c6
       try clear c8
       try clear c11
       try clear c11b0
       try clear c11b1
       try clear c12
       try clear c13
       try clear c17
       try clear c17b0
       try clear c17b1
       try clear p2
       obtain ⟨kq, x36_14, rfl, HA, HJ14, HO_3, HB⟩ := hcut
       cases kq with
       | zero => exact absurd HA.out (by simp [transposallaw09_EntrySames.j1])
       | succ kj14 =>
        have H := HA.out
        clear HA
        simp only [transposallaw09_EntrySames.j1] at H
        have HC20 := Aside0.mk H
        clear H
        go_upto_if 36 with (fail)
        repeat (go_quiet (fail); go_upto_if 36 with (fail))
        go_cut [] (fun wc => ∃ (kq : Nat) (x3_19 : List (S28)), Aside0 (transposallaw09_EntrySames.j2 kq a0 a0 l2 x3_19 = some r) ∧ Aside0 (kq ≤ kj14) ∧ Aside0 (Kd.R k28 28 wc w.heap.size (fun _ => True) v302 x3_19) ∧ Aside0 (Below w.heap.size w wc))
        case first =>
         have H := HC20.out
         clear HC20
         by_cases c21 : x36_14 = true
         ·subst c21
          have H1 : (if (t301.length : Int) = 0 then (none) else (if 0 ≤ (Int.tmod (wrap64 (a5)) (t301.length : Int)) then (if (Int.tmod (wrap64 (a5)) (t301.length : Int)) < (t301.length : Int) then (transposallaw09_EntrySames.j2 kj14 a0 a0 l2 (t301.set ((Int.tmod (wrap64 (a5)) (t301.length : Int)) : Int).toNat (⟨(rd_T28 t301 (Int.tmod (wrap64 (a5)) (t301.length : Int))).f0, (rd_T28 t301 (Int.tmod (wrap64 (a5)) (t301.length : Int))).f1, (rd_T28 t301 (Int.tmod (wrap64 (a5)) (t301.length : Int))).f2, Go.bits .xor .i64 ((rd_T28 t301 (Int.tmod (wrap64 (a5)) (t301.length : Int))).f3) (wrap64 (Int.tmod a5 4))⟩ : S28))) else (none)) else (none))) = some r := by rw [if_pos rfl] at H; exact H
          clear H
          have H := H1
          clear H1
          by_cases c22 : (t301.length : Int) = 0
          ·rw [if_pos c22] at H
           exact absurd H (by simp)
          ·rw [if_neg c22] at H
           have c22b0 : ((t301.length : Int) == 0) = false := beq_eq_false_iff_ne.mpr c22
           have c22b1 : ((t301.length : Int) != 0) = true := bne_iff_ne.mpr c22
           have c22b2 : ¬ (t301 = []) := fun h_ => c22 (by rw [h_]; rfl)
           (first | rw [c22b0] | (simp only [i64_w, i32_w]; rw [c22b0]) | skip)
           obtain ⟨ji23, hji23⟩ : ∃ j_ : Int, (Int.tmod (wrap64 (a5)) (t301.length : Int)) = j_ := ⟨_, rfl⟩
           replace H : (if 0 ≤ (ji23) then (if (ji23) < (t301.length : Int) then (transposallaw09_EntrySames.j2 kj14 a0 a0 l2 (t301.set ((ji23) : Int).toNat (⟨(rd_T28 t301 (ji23)).f0, (rd_T28 t301 (ji23)).f1, (rd_T28 t301 (ji23)).f2, Go.bits .xor .i64 ((rd_T28 t301 (ji23)).f3) (wrap64 (Int.tmod a5 4))⟩ : S28))) else (none)) else (none)) = some r := by first | (rw [hji23] at H; exact H) | (simp only [hji23] at H ⊢; exact H)
           by_cases c24 : 0 ≤ (ji23)
           ·rw [if_pos c24] at H
            have c24b0 : decide (0 ≤ (ji23)) = true := decide_eq_true c24
            clear c24
            by_cases c25 : (ji23) < (t301.length : Int)
            ·rw [if_pos c25] at H
             have c25b0 : decide ((ji23) < (t301.length : Int)) = true := decide_eq_true c25
             clear c25
             obtain ⟨y305, hy305⟩ : ∃ y_ : List (S28), y_ = (t301.set ((ji23) : Int).toNat (⟨(rd_T28 t301 (ji23)).f0, (rd_T28 t301 (ji23)).f1, (rd_T28 t301 (ji23)).f2, Go.bits .xor .i64 ((rd_T28 t301 (ji23)).f3) (wrap64 (Int.tmod a5 4))⟩ : S28)) := ⟨_, rfl⟩
             replace H : (transposallaw09_EntrySames.j2 kj14 a0 a0 l2 y305) = some r := by first | (rw [hy305]; with_reducible exact H) | (have H2_ := (Option.bind_some _ _).symm.trans H; rw [hy305]; with_reducible exact H2_) | (have H2_ := (Option.bind_some _ _).symm.trans H; with_reducible exact H2_) | with_reducible exact H | (rw [hy305]; exact H) | exact H
             have Ny305 := Aside0.mk hy305
             clear hy305
             have H' := Aside0.mk H
             clear H
             obtain ⟨Ao27, co27, eo27⟩ := Kd.R_slice HO_3.out
             subst eo27
             have p304 : 0 ≤ ((ji23) : Int) := of_decide_eq_true (by first | (with_reducible assumption) | assumption)
             have q304 : (ji23) < (t301.length : Int) := of_decide_eq_true (by first | (with_reducible assumption) | assumption)
             obtain ⟨ad304, e304, hx304_0, hx304_1, hx304_2, hx304_3⟩ := at_T28 (Kd.R_reads' HO_3.out).2.2 (ji23) p304 q304
             cases e304
             replace p304 := eq_true p304
             replace q304 := eq_true q304
             have p26 : 0 ≤ ((ji23) : Int) := of_decide_eq_true (by first | (with_reducible assumption) | assumption)
             have q26 : ((ji23) : Int) < ((t301.length : Int) : Int) := of_decide_eq_true (by first | (with_reducible assumption) | assumption)
             obtain ⟨go26, co26, eo26, gb26, gl26, cl26, HG26⟩ := Kd.R_form HO_3.out (by omega)
             (first | cases eo26 | (injection eo26 with ea_ en_ ec_; (first | subst ea_ | (injection ea_ with ea_; subst ea_)); subst ec_; clear en_))
             have GB26 := Aside0.mk gb26
             have GG26 := Aside0.mk HG26
             clear gb26 gl26 HG26
             (first | simp only [add_plain] at hx304_0 | skip)
             (first | simp only [add_plain] at hx304_1 | skip)
             (first | simp only [add_plain] at hx304_2 | skip)
             (first | simp only [add_plain] at hx304_3 | skip)
             obtain ⟨ce26, hcl26, hM26, hcc26, hfr26⟩ := Kd.R_elem HO_3.out z28 ((ji23) : Int) p26 q26
             obtain rfl := k28_openM hM26
             have hx26_0 : wc.cell? ⟨go26, ((ji23) : Int).toNat * 4, none⟩ = some (.int .u32 ((rd_T28 t301 (ji23)).f0)) := hcc26 0 _ rfl
             have hx26_1 : wc.cell? ⟨go26, ((ji23) : Int).toNat * 4 + 1, none⟩ = some (.int .u16 ((rd_T28 t301 (ji23)).f1)) := hcc26 1 _ rfl
             have hx26_2 : wc.cell? ⟨go26, ((ji23) : Int).toNat * 4 + 2, none⟩ = some (.int .u16 ((rd_T28 t301 (ji23)).f2)) := hcc26 2 _ rfl
             have hx26_3 : wc.cell? ⟨go26, ((ji23) : Int).toNat * 4 + 3, none⟩ = some (.int .i64 ((rd_T28 t301 (ji23)).f3)) := hcc26 3 _ rfl
             have hf26_0 : wc.frozen? ⟨go26, ((ji23) : Int).toNat * 4, none⟩ = false := hfr26 0
             have hf26_1 : wc.frozen? ⟨go26, ((ji23) : Int).toNat * 4 + 1, none⟩ = false := hfr26 1
             have hf26_2 : wc.frozen? ⟨go26, ((ji23) : Int).toNat * 4 + 2, none⟩ = false := hfr26 2
             have hf26_3 : wc.frozen? ⟨go26, ((ji23) : Int).toNat * 4 + 3, none⟩ = false := hfr26 3
             clear hcl26 hcc26 hfr26 hM26
             replace p26 := eq_true p26
             replace q26 := eq_true q26
             have HX28 := Aside0.mk (show Kd.R k28 28 wc w.heap.size (fun _ => True) (.slice (some ⟨go26, 0, none⟩) t301.length co27) t301 from (by (with_reducible repeat (first | apply Kd.R_alloc | apply Kd.R_drewN | apply Kd.R_drew)); exact HO_3.out))
             obtain ⟨ce28, hcl28, hM28, hcc28, hfr28⟩ := Kd.R_elem HX28.out z28 ((ji23) : Int) (of_decide_eq_true (by first | (with_reducible assumption) | assumption)) (by have h_ : ((ji23) : Int) < ((t301.length : Int) : Int) := of_decide_eq_true (by first | (with_reducible assumption) | assumption); first | exact h_ | (have e_ := (Kd.R_reads' HO_3.out).1; omega) | simpa using h_)
             obtain rfl := k28_openM hM28
             have HP28 := Kd.R_seg HX28.out ((ji23) : Int) (of_decide_eq_true (by first | (with_reducible assumption) | assumption)) (by have h_ : ((ji23) : Int) < ((t301.length : Int) : Int) := of_decide_eq_true (by first | (with_reducible assumption) | assumption); first | exact h_ | (have e_ := (Kd.R_reads' HO_3.out).1; omega) | simpa using h_) (seg := [.int .i64 (Go.bits .xor .i64 ((rd_T28 t301 (ji23)).f3) (wrap64 (Int.tmod a5 4)))]) (j := 3) hcl28 hcc28 (show 4 ≤ 4 from by decide) (x' := (⟨(rd_T28 t301 (ji23)).f0, (rd_T28 t301 (ji23)).f1, (rd_T28 t301 (ji23)).f2, Go.bits .xor .i64 ((rd_T28 t301 (ji23)).f3) (wrap64 (Int.tmod a5 4))⟩ : S28)) (k28_mkM _ _ _ (⟨(rd_T28 t301 (ji23)).f0, (rd_T28 t301 (ji23)).f1, (rd_T28 t301 (ji23)).f2, Go.bits .xor .i64 ((rd_T28 t301 (ji23)).f3) (wrap64 (Int.tmod a5 4))⟩ : S28) ) (fun _ hk => hk)
             have hx28_3 := hcc28 3 _ rfl
             (try simp only [show (k28).sz = 4 from rfl, Nat.mul_one, Nat.add_zero] at hx28_3)
             have hf28_3 := hfr28 3
             (try simp only [show (k28).sz = 4 from rfl, Nat.mul_one, Nat.add_zero] at hf28_3)
             clear hcl28 hcc28 hfr28 hM28
             go_wp2_with (first | ((with_reducible refine gate_store (t := 2) (p := 51) rfl ?_); (try (rw [drewN_self wc]; generalize hq_ : World.drewN wc _ = wc; have n0_ := Aside0.mk (Kd.R_at hq_ HO_3.out); have n1_ := Aside0.mk (below_at hq_ HB.out); clear hq_ HO_3 HB; have HO_3 := n0_; have HB := n1_; clear n0_ n1_; (try (have HX28 := Aside0.mk (show Kd.R k28 28 wc w.heap.size (fun _ => True) (.slice (some ⟨go26, 0, none⟩) t301.length co27) t301 from (by (with_reducible repeat (first | apply Kd.R_alloc | apply Kd.R_drewN | apply Kd.R_drew)); exact HO_3.out)))); (try (obtain ⟨ce28, hcl28, hM28, hcc28, hfr28⟩ := Kd.R_elem HX28.out z28 ((ji23) : Int) (of_decide_eq_true (by first | (with_reducible assumption) | assumption)) (by have h_ : ((ji23) : Int) < ((t301.length : Int) : Int) := of_decide_eq_true (by first | (with_reducible assumption) | assumption); first | exact h_ | (have e_ := (Kd.R_reads' HO_3.out).1; omega) | simpa using h_))); (try (obtain rfl := k28_openM hM28)); (try (have HP28 := Kd.R_seg HX28.out ((ji23) : Int) (of_decide_eq_true (by first | (with_reducible assumption) | assumption)) (by have h_ : ((ji23) : Int) < ((t301.length : Int) : Int) := of_decide_eq_true (by first | (with_reducible assumption) | assumption); first | exact h_ | (have e_ := (Kd.R_reads' HO_3.out).1; omega) | simpa using h_) (seg := [.int .i64 (Go.bits .xor .i64 ((rd_T28 t301 (ji23)).f3) (wrap64 (Int.tmod a5 4)))]) (j := 3) hcl28 hcc28 (show 4 ≤ 4 from by decide) (x' := (⟨(rd_T28 t301 (ji23)).f0, (rd_T28 t301 (ji23)).f1, (rd_T28 t301 (ji23)).f2, Go.bits .xor .i64 ((rd_T28 t301 (ji23)).f3) (wrap64 (Int.tmod a5 4))⟩ : S28)) (k28_mkM _ _ _ (⟨(rd_T28 t301 (ji23)).f0, (rd_T28 t301 (ji23)).f1, (rd_T28 t301 (ji23)).f2, Go.bits .xor .i64 ((rd_T28 t301 (ji23)).f3) (wrap64 (Int.tmod a5 4))⟩ : S28) ) (fun _ hk => hk))); (try (have hx28_3 := hcc28 3 _ rfl)); (try (try simp only [show (k28).sz = 4 from rfl, Nat.mul_one, Nat.add_zero] at hx28_3)); (try (have hf28_3 := hfr28 3)); (try (try simp only [show (k28).sz = 4 from rfl, Nat.mul_one, Nat.add_zero] at hf28_3)); (try (clear hcl28 hcc28 hfr28 hM28)))); refine store_event (t := 2) (p := 51) (v := ?vo_w29) (w1 := (wc.setCell ⟨go26, ((ji23) : Int).toNat * 4 + 3, none⟩ (.int .i64 (Go.bits .xor .i64 ((rd_T28 t301 (ji23)).f3) (wrap64 (Int.tmod a5 4)))))) ?hg ?ho ?hn ?hr ?_; (case ho => rfl); (case hg => rfl); (case hn => rfl); (case hr => first | (go_simp; done) | (go_simp; rfl)); intro w29 hw; have hg : wc.grownBy w29 (some go26) := (by rw [hw]; exact HP28.2); have hp_ : Kd.R k28 28 w29 w.heap.size (fun _ => True) (.slice (some ⟨go26, 0, none⟩) t301.length co27) y305 := (by rw [hw, Ny305.out]; exact HP28.1); clear HP28; have n0_ := Aside0.mk (hp_); have n1_ := Aside0.mk ((by rw [hw]; exact below_set (HB.out) GB26.out : Below w.heap.size w w29)); clear HO_3; clear HB; have HO_3 := n0_; have HB := n1_; clear n0_ n1_; clear hg hw hp_))
             repeat (go_quiet (first | ((with_reducible refine gate_store (t := 2) (p := 51) rfl ?_); (try (rw [drewN_self wc]; generalize hq_ : World.drewN wc _ = wc; have n0_ := Aside0.mk (Kd.R_at hq_ HO_3.out); have n1_ := Aside0.mk (below_at hq_ HB.out); clear hq_ HO_3 HB; have HO_3 := n0_; have HB := n1_; clear n0_ n1_; (try (have HX28 := Aside0.mk (show Kd.R k28 28 wc w.heap.size (fun _ => True) (.slice (some ⟨go26, 0, none⟩) t301.length co27) t301 from (by (with_reducible repeat (first | apply Kd.R_alloc | apply Kd.R_drewN | apply Kd.R_drew)); exact HO_3.out)))); (try (obtain ⟨ce28, hcl28, hM28, hcc28, hfr28⟩ := Kd.R_elem HX28.out z28 ((ji23) : Int) (of_decide_eq_true (by first | (with_reducible assumption) | assumption)) (by have h_ : ((ji23) : Int) < ((t301.length : Int) : Int) := of_decide_eq_true (by first | (with_reducible assumption) | assumption); first | exact h_ | (have e_ := (Kd.R_reads' HO_3.out).1; omega) | simpa using h_))); (try (obtain rfl := k28_openM hM28)); (try (have HP28 := Kd.R_seg HX28.out ((ji23) : Int) (of_decide_eq_true (by first | (with_reducible assumption) | assumption)) (by have h_ : ((ji23) : Int) < ((t301.length : Int) : Int) := of_decide_eq_true (by first | (with_reducible assumption) | assumption); first | exact h_ | (have e_ := (Kd.R_reads' HO_3.out).1; omega) | simpa using h_) (seg := [.int .i64 (Go.bits .xor .i64 ((rd_T28 t301 (ji23)).f3) (wrap64 (Int.tmod a5 4)))]) (j := 3) hcl28 hcc28 (show 4 ≤ 4 from by decide) (x' := (⟨(rd_T28 t301 (ji23)).f0, (rd_T28 t301 (ji23)).f1, (rd_T28 t301 (ji23)).f2, Go.bits .xor .i64 ((rd_T28 t301 (ji23)).f3) (wrap64 (Int.tmod a5 4))⟩ : S28)) (k28_mkM _ _ _ (⟨(rd_T28 t301 (ji23)).f0, (rd_T28 t301 (ji23)).f1, (rd_T28 t301 (ji23)).f2, Go.bits .xor .i64 ((rd_T28 t301 (ji23)).f3) (wrap64 (Int.tmod a5 4))⟩ : S28) ) (fun _ hk => hk))); (try (have hx28_3 := hcc28 3 _ rfl)); (try (try simp only [show (k28).sz = 4 from rfl, Nat.mul_one, Nat.add_zero] at hx28_3)); (try (have hf28_3 := hfr28 3)); (try (try simp only [show (k28).sz = 4 from rfl, Nat.mul_one, Nat.add_zero] at hf28_3)); (try (clear hcl28 hcc28 hfr28 hM28)))); refine store_event (t := 2) (p := 51) (v := ?vo_w29) (w1 := (wc.setCell ⟨go26, ((ji23) : Int).toNat * 4 + 3, none⟩ (.int .i64 (Go.bits .xor .i64 ((rd_T28 t301 (ji23)).f3) (wrap64 (Int.tmod a5 4)))))) ?hg ?ho ?hn ?hr ?_; (case ho => rfl); (case hg => rfl); (case hn => rfl); (case hr => first | (go_simp; done) | (go_simp; rfl)); intro w29 hw; have hg : wc.grownBy w29 (some go26) := (by rw [hw]; exact HP28.2); have hp_ : Kd.R k28 28 w29 w.heap.size (fun _ => True) (.slice (some ⟨go26, 0, none⟩) t301.length co27) y305 := (by rw [hw, Ny305.out]; exact HP28.1); clear HP28; have n0_ := Aside0.mk (hp_); have n1_ := Aside0.mk ((by rw [hw]; exact below_set (HB.out) GB26.out : Below w.heap.size w w29)); clear HO_3; clear HB; have HO_3 := n0_; have HB := n1_; clear n0_ n1_; clear hg hw hp_)); try go_wp2_with (first | ((with_reducible refine gate_store (t := 2) (p := 51) rfl ?_); (try (rw [drewN_self wc]; generalize hq_ : World.drewN wc _ = wc; have n0_ := Aside0.mk (Kd.R_at hq_ HO_3.out); have n1_ := Aside0.mk (below_at hq_ HB.out); clear hq_ HO_3 HB; have HO_3 := n0_; have HB := n1_; clear n0_ n1_; (try (have HX28 := Aside0.mk (show Kd.R k28 28 wc w.heap.size (fun _ => True) (.slice (some ⟨go26, 0, none⟩) t301.length co27) t301 from (by (with_reducible repeat (first | apply Kd.R_alloc | apply Kd.R_drewN | apply Kd.R_drew)); exact HO_3.out)))); (try (obtain ⟨ce28, hcl28, hM28, hcc28, hfr28⟩ := Kd.R_elem HX28.out z28 ((ji23) : Int) (of_decide_eq_true (by first | (with_reducible assumption) | assumption)) (by have h_ : ((ji23) : Int) < ((t301.length : Int) : Int) := of_decide_eq_true (by first | (with_reducible assumption) | assumption); first | exact h_ | (have e_ := (Kd.R_reads' HO_3.out).1; omega) | simpa using h_))); (try (obtain rfl := k28_openM hM28)); (try (have HP28 := Kd.R_seg HX28.out ((ji23) : Int) (of_decide_eq_true (by first | (with_reducible assumption) | assumption)) (by have h_ : ((ji23) : Int) < ((t301.length : Int) : Int) := of_decide_eq_true (by first | (with_reducible assumption) | assumption); first | exact h_ | (have e_ := (Kd.R_reads' HO_3.out).1; omega) | simpa using h_) (seg := [.int .i64 (Go.bits .xor .i64 ((rd_T28 t301 (ji23)).f3) (wrap64 (Int.tmod a5 4)))]) (j := 3) hcl28 hcc28 (show 4 ≤ 4 from by decide) (x' := (⟨(rd_T28 t301 (ji23)).f0, (rd_T28 t301 (ji23)).f1, (rd_T28 t301 (ji23)).f2, Go.bits .xor .i64 ((rd_T28 t301 (ji23)).f3) (wrap64 (Int.tmod a5 4))⟩ : S28)) (k28_mkM _ _ _ (⟨(rd_T28 t301 (ji23)).f0, (rd_T28 t301 (ji23)).f1, (rd_T28 t301 (ji23)).f2, Go.bits .xor .i64 ((rd_T28 t301 (ji23)).f3) (wrap64 (Int.tmod a5 4))⟩ : S28) ) (fun _ hk => hk))); (try (have hx28_3 := hcc28 3 _ rfl)); (try (try simp only [show (k28).sz = 4 from rfl, Nat.mul_one, Nat.add_zero] at hx28_3)); (try (have hf28_3 := hfr28 3)); (try (try simp only [show (k28).sz = 4 from rfl, Nat.mul_one, Nat.add_zero] at hf28_3)); (try (clear hcl28 hcc28 hfr28 hM28)))); refine store_event (t := 2) (p := 51) (v := ?vo_w29) (w1 := (wc.setCell ⟨go26, ((ji23) : Int).toNat * 4 + 3, none⟩ (.int .i64 (Go.bits .xor .i64 ((rd_T28 t301 (ji23)).f3) (wrap64 (Int.tmod a5 4)))))) ?hg ?ho ?hn ?hr ?_; (case ho => rfl); (case hg => rfl); (case hn => rfl); (case hr => first | (go_simp; done) | (go_simp; rfl)); intro w29 hw; have hg : wc.grownBy w29 (some go26) := (by rw [hw]; exact HP28.2); have hp_ : Kd.R k28 28 w29 w.heap.size (fun _ => True) (.slice (some ⟨go26, 0, none⟩) t301.length co27) y305 := (by rw [hw, Ny305.out]; exact HP28.1); clear HP28; have n0_ := Aside0.mk (hp_); have n1_ := Aside0.mk ((by rw [hw]; exact below_set (HB.out) GB26.out : Below w.heap.size w w29)); clear HO_3; clear HB; have HO_3 := n0_; have HB := n1_; clear n0_ n1_; clear hg hw hp_)))
             go_meet
             case rel => exact ⟨_, (y305), H', ⟨by have := HJ8.out; have := HJ14.out; first | omega | exact Nat.le_refl _⟩, ⟨by (with_reducible repeat (first | apply Kd.R_alloc | apply Kd.R_drewN | apply Kd.R_drew)); exact HO_3.out⟩, ⟨by repeat (first | (with_reducible first | exact HB.out | apply below_alloc | apply pw_below_drewN | apply below_drew1) | exact HB.out)⟩⟩
            ·rw [if_neg c25] at H
             exact absurd H (by simp)
           ·rw [if_neg c24] at H
            exact absurd H (by simp)
         ·replace c21 := Bool.eq_false_iff.mpr c21
          subst c21
          have H1 : (transposallaw09_EntrySames.j2 kj14 a0 a0 l2 t301) = some r := by rw [if_neg (show ¬ (false = true) by decide)] at H; exact H
          clear H
          have H := H1
          clear H1
          have H' := Aside0.mk H
          clear H
          go_wp2
          repeat (go_quiet (fail); try go_wp2)
          go_meet
          case rel => exact ⟨_, (t301), H', ⟨by have := HJ8.out; have := HJ14.out; first | omega | exact Nat.le_refl _⟩, ⟨by (with_reducible repeat (first | apply Kd.R_alloc | apply Kd.R_drewN | apply Kd.R_drew)); exact HO_3.out⟩, ⟨by repeat (first | (with_reducible first | exact HB.out | apply below_alloc | apply pw_below_drewN | apply below_drew1) | exact HB.out)⟩⟩
        case rest =>
         clear HC20
         try clear c1
         try clear c2
         try clear p2
         try clear q2
         try clear hx2
         try clear c3
         try clear p3
         try clear q3
         try clear hx3
         try clear c6
         try clear p6
         try clear c8
         try clear c11
         try clear c11b0
         try clear c11b1
         try clear c12
         try clear c13
         try clear c17
         try clear c17b0
         try clear c17b1
         try clear c21
         try clear c22
         try clear c22b0
         try clear c22b1
         try clear c22b2
         try clear c24
         try clear c24b0
         try clear c25
         try clear c25b0
         try clear c26
         try clear p26
         try clear q26
         try clear hx26
         try clear hf26
         try clear c28
         try clear hx28
         try clear hf28
         try clear hx26_0
         try clear hx26_1
         try clear hx26_2
         try clear hx26_3
         try clear hx28_3
         try clear hx304_0
         try clear hx304_1
         try clear hx304_2
         try clear hx304_3
         try clear p2
         try clear p26
         try clear p304
         try clear q26
         try clear q304
         obtain ⟨kq, x3_19, HA, HJ19, HO_3, HB⟩ := hcut
         cases kq with
         | zero => exact absurd HA.out (by simp [transposallaw09_EntrySames.j2])
         | succ kj19 =>
          have H := HA.out
          clear HA
          simp only [transposallaw09_EntrySames.j2] at H
          have HC30 := Aside0.mk H
          clear H
          go_upto_region 9 with (fail)
          repeat (go_quiet (fail); go_upto_region 9 with (fail))
          go_cut [13] (fun v13 wc => ∃ (kq : Nat) (x13_29 : Bool), v13 = .bool x13_29 ∧ Aside0 (transposallaw09_EntrySames.j3 kq a0 a0 l2 x3_19 x13_29 = some r) ∧ Aside0 (kq ≤ kj19) ∧ Aside0 (Kd.R k28 28 wc w.heap.size (fun _ => True) v302 x3_19) ∧ Aside0 (Below w.heap.size w wc))
          case first =>
           have H := HC30.out
           clear HC30
           by_cases c31 : a0 = a0
           ·(first | rw [if_pos c31] at H | rw [if_pos trivial] at H)
            have c31b0 : (a0 == a0) = true := beq_iff_eq.mpr c31
            have c31b1 : (a0 != a0) = false := bne_eq_false_iff_eq.mpr c31
            clear c31
            (first | rw [c31b0] | (simp only [i64_w, i32_w]; rw [c31b0]) | skip)
            have H' := Aside0.mk H
            clear H
            obtain ⟨Ao32, co32, eo32⟩ := Kd.R_slice HO_3.out
            subst eo32
            go_wp2
            repeat (go_quiet (fail); try go_wp2)
            go_meet
            case rel => exact ⟨_, (((l2.length : Int) == (x3_19.length : Int))), (by first | rfl | (simp; done) | (simp [*]; done)), H', ⟨by have := HJ8.out; have := HJ14.out; have := HJ19.out; first | omega | exact Nat.le_refl _⟩, ⟨by (with_reducible repeat (first | apply Kd.R_alloc | apply Kd.R_drewN | apply Kd.R_drew)); exact HO_3.out⟩, ⟨by repeat (first | (with_reducible first | exact HB.out | apply below_alloc | apply pw_below_drewN | apply below_drew1) | exact HB.out)⟩⟩
           ·exact absurd rfl c31
          case rest =>
           clear HC30
           try clear c1
           try clear c2
           try clear p2
           try clear q2
           try clear hx2
           try clear c3
           try clear p3
           try clear q3
           try clear hx3
           try clear c6
           try clear p6
           try clear c8
           try clear c11
           try clear c11b0
           try clear c11b1
           try clear c12
           try clear c13
           try clear c17
           try clear c17b0
           try clear c17b1
           try clear c21
           try clear c22
           try clear c22b0
           try clear c22b1
           try clear c22b2
           try clear c24
           try clear c24b0
           try clear c25
           try clear c25b0
           try clear c26
           try clear p26
           try clear q26
           try clear hx26
           try clear hf26
           try clear c28
           try clear hx28
           try clear hf28
           try clear p30
           try clear q30
           try clear hx30
           try clear c31
           try clear c31b0
           try clear c31b1
           try clear hx26_0
           try clear hx26_1
           try clear hx26_2
           try clear hx26_3
           try clear hx28_3
           try clear hx304_0
           try clear hx304_1
           try clear hx304_2
           try clear hx304_3
           try clear p2
           try clear p26
           try clear p3
           try clear p304
           try clear p6
           try clear q2
           try clear q26
           try clear q3
           try clear q304
           obtain ⟨kq, x13_29, rfl, HA, HJ29, HO_3, HB⟩ := hcut
           cases kq with
           | zero => exact absurd HA.out (by simp [transposallaw09_EntrySames.j3])
           | succ kj29 =>
            have H := HA.out
            clear HA
            simp only [transposallaw09_EntrySames.j3] at H
            obtain ⟨ji33, hji33⟩ : ∃ j_ : Int, (mn (l2.length : Int) (x3_19.length : Int)) = j_ := ⟨_, rfl⟩
            replace H : (transposallaw09_EntrySames.l0 kj29 a0 a0 l2 x3_19 x13_29 ji33 0) = some r := by first | (rw [hji33] at H; exact H) | (simp only [hji33] at H ⊢; exact H)
            have hji33_ : (if (x3_19.length : Int) < (l2.length : Int) then (x3_19.length : Int) else (l2.length : Int)) = ji33 := hji33
            have hji33n_ : (if x3_19.length < l2.length then (x3_19.length : Int) else (l2.length : Int)) = ji33 := by have z_ := hji33_; simpa only [Int.ofNat_lt] using z_
            have H' := Aside0.mk H
            clear H
            obtain ⟨Ao34, co34, eo34⟩ := Kd.R_slice HO_3.out
            subst eo34
            go_wp2
            repeat (go_quiet (fail); try go_wp2)
            go_loopg [13, 67] kj29 (fun kq v13 v67 w' => ∃ (x13_5 : Bool) (x67_5 : Int), v13 = .bool x13_5 ∧ v67 = .int .i64 x67_5 ∧ Aside0 (transposallaw09_EntrySames.l0 kq a0 a0 l2 x3_19 x13_5 ji33 x67_5 = some r) ∧ Aside0 (kq ≤ kj29) ∧ Aside0 (Kd.R k28 28 w' w.heap.size (fun _ => True) (.slice Ao34 x3_19.length co34) x3_19) ∧ Aside0 (Below w.heap.size w w'))
            case atStart => exact ⟨(x13_29), (0), (by first | rfl | (simp; done) | (simp [*]; done)), (by first | rfl | (simp; done) | (simp [*]; done)), H', ⟨Nat.le_refl _⟩, ⟨by (with_reducible repeat (first | apply Kd.R_alloc | apply Kd.R_drewN | apply Kd.R_drew)); exact HO_3.out⟩, ⟨by repeat (first | (with_reducible first | exact HB.out | apply below_alloc | apply pw_below_drewN | apply below_drew1) | exact HB.out)⟩⟩
            case round =>
             clear H'
             try clear c1
             try clear c2
             try clear p2
             try clear q2
             try clear hx2
             try clear c3
             try clear p3
             try clear q3
             try clear hx3
             try clear c6
             try clear p6
             try clear c8
             try clear c11
             try clear c11b0
             try clear c11b1
             try clear c12
             try clear c13
             try clear c17
             try clear c17b0
             try clear c17b1
             try clear c21
             try clear c22
             try clear c22b0
             try clear c22b1
             try clear c22b2
             try clear c24
             try clear c24b0
             try clear c25
             try clear c25b0
             try clear c26
             try clear p26
             try clear q26
             try clear hx26
             try clear hf26
             try clear c28
             try clear hx28
             try clear hf28
             try clear p30
             try clear q30
             try clear hx30
             try clear c31
             try clear c31b0
             try clear c31b1
             try clear hx26_0
             try clear hx26_1
             try clear hx26_2
             try clear hx26_3
             try clear hx28_3
             try clear hx304_0
             try clear hx304_1
             try clear hx304_2
             try clear hx304_3
             try clear p2
             try clear p26
             try clear p3
             try clear p30
             try clear p304
             try clear p6
             try clear q2
             try clear q26
             try clear q3
             try clear q30
             try clear q304
             obtain ⟨x13_5, x67_5, rfl, rfl, HA, HK5, HO_3, HB⟩ := hrel
             cases gk with
             | zero => exact absurd HA.out (by simp [transposallaw09_EntrySames.l0])
             | succ k5 =>
              have H := HA.out
              clear HA
              simp only [transposallaw09_EntrySames.l0] at H
              by_cases c35 : x67_5 < ji33
              ·rw [if_pos c35] at H
               have c35b0 : decide (x67_5 < ji33) = true := decide_eq_true c35
               clear c35
               by_cases c36 : x13_5 = true
               ·subst c36
                have H1 : (if 0 ≤ x67_5 then (if x67_5 < (l2.length : Int) then (if x67_5 < (x3_19.length : Int) then (transposallaw09_EntrySames.l0 k5 a0 a0 l2 x3_19 (((rd_T28 l2 x67_5).f0) == ((rd_T28 x3_19 x67_5).f0) && (((rd_T28 l2 x67_5).f1) == ((rd_T28 x3_19 x67_5).f1) && (((rd_T28 l2 x67_5).f2) == ((rd_T28 x3_19 x67_5).f2) && (((rd_T28 l2 x67_5).f3) == ((rd_T28 x3_19 x67_5).f3))))) ji33 (wrap64 (x67_5 + 1))) else (none)) else (none)) else (none)) = some r := by rw [if_pos rfl] at H; exact H
                clear H
                have H := H1
                clear H1
                by_cases c37 : 0 ≤ x67_5
                ·rw [if_pos c37] at H
                 have c37b0 : decide (0 ≤ x67_5) = true := decide_eq_true c37
                 clear c37
                 by_cases c38 : x67_5 < (l2.length : Int)
                 ·rw [if_pos c38] at H
                  have c38b0 : decide (x67_5 < (l2.length : Int)) = true := decide_eq_true c38
                  clear c38
                  by_cases c39 : x67_5 < (x3_19.length : Int)
                  ·rw [if_pos c39] at H
                   have c39b0 : decide (x67_5 < (x3_19.length : Int)) = true := decide_eq_true c39
                   clear c39
                   have H' := Aside0.mk H
                   clear H
                   have p306 : 0 ≤ (x67_5 : Int) := of_decide_eq_true (by first | (with_reducible assumption) | assumption)
                   have q306 : x67_5 < (l2.length : Int) := of_decide_eq_true (by first | (with_reducible assumption) | assumption)
                   obtain ⟨ad306, e306, hx306_0, hx306_1, hx306_2, hx306_3⟩ := at_T28 HR2.out x67_5 p306 q306
                   cases e306
                   replace hx306_0 := (HB.out.cell (World.block_lt_of_cell? w _ hx306_0)).trans hx306_0
                   replace hx306_1 := (HB.out.cell (World.block_lt_of_cell? w _ hx306_1)).trans hx306_1
                   replace hx306_2 := (HB.out.cell (World.block_lt_of_cell? w _ hx306_2)).trans hx306_2
                   replace hx306_3 := (HB.out.cell (World.block_lt_of_cell? w _ hx306_3)).trans hx306_3
                   replace p306 := eq_true p306
                   replace q306 := eq_true q306
                   have p307 : 0 ≤ (x67_5 : Int) := of_decide_eq_true (by first | (with_reducible assumption) | assumption)
                   have q307 : x67_5 < (x3_19.length : Int) := of_decide_eq_true (by first | (with_reducible assumption) | assumption)
                   obtain ⟨ad307, e307, hx307_0, hx307_1, hx307_2, hx307_3⟩ := at_T28 (Kd.R_reads' HO_3.out).2.2 x67_5 p307 q307
                   cases e307
                   replace p307 := eq_true p307
                   replace q307 := eq_true q307
                   go_wp2
                   repeat (go_quiet (fail); try go_wp2)
                   go_roundg k5
                   case measure => have := HJ8.out; have := HJ14.out; have := HJ19.out; have := HJ29.out; have := HK5.out; omega
                   case rel => exact ⟨((((rd_T28 l2 x67_5).f0) == ((rd_T28 x3_19 x67_5).f0) && (((rd_T28 l2 x67_5).f1) == ((rd_T28 x3_19 x67_5).f1) && (((rd_T28 l2 x67_5).f2) == ((rd_T28 x3_19 x67_5).f2) && (((rd_T28 l2 x67_5).f3) == ((rd_T28 x3_19 x67_5).f3)))))), (wrap64 (x67_5 + 1)), (by first | rfl | (simp; done) | (simp [*]; done)), (by first | rfl | (simp; done) | (simp [*]; done)), H', ⟨by have := HJ8.out; have := HJ14.out; have := HJ19.out; have := HJ29.out; have := HK5.out; omega⟩, ⟨by (with_reducible repeat (first | apply Kd.R_alloc | apply Kd.R_drewN | apply Kd.R_drew)); exact HO_3.out⟩, ⟨by repeat (first | (with_reducible first | exact HB.out | apply below_alloc | apply pw_below_drewN | apply below_drew1) | exact HB.out)⟩⟩
                  ·rw [if_neg c39] at H
                   exact absurd H (by simp)
                 ·rw [if_neg c38] at H
                  exact absurd H (by simp)
                ·rw [if_neg c37] at H
                 exact absurd H (by simp)
               ·replace c36 := Bool.eq_false_iff.mpr c36
                subst c36
                have H1 : (transposallaw09_EntrySames.l0 k5 a0 a0 l2 x3_19 false ji33 (wrap64 (x67_5 + 1))) = some r := by rw [if_neg (show ¬ (false = true) by decide)] at H; exact H
                clear H
                have H := H1
                clear H1
                have H' := Aside0.mk H
                clear H
                go_wp2
                repeat (go_quiet (fail); try go_wp2)
                go_roundg k5
                case measure => have := HJ8.out; have := HJ14.out; have := HJ19.out; have := HJ29.out; have := HK5.out; omega
                case rel => exact ⟨(false), (wrap64 (x67_5 + 1)), (by first | rfl | (simp; done) | (simp [*]; done)), (by first | rfl | (simp; done) | (simp [*]; done)), H', ⟨by have := HJ8.out; have := HJ14.out; have := HJ19.out; have := HJ29.out; have := HK5.out; omega⟩, ⟨by (with_reducible repeat (first | apply Kd.R_alloc | apply Kd.R_drewN | apply Kd.R_drew)); exact HO_3.out⟩, ⟨by repeat (first | (with_reducible first | exact HB.out | apply below_alloc | apply pw_below_drewN | apply below_drew1) | exact HB.out)⟩⟩
              ·rw [if_neg c35] at H
               have c35b0 : decide (x67_5 < ji33) = false := decide_eq_false c35
               clear c35
               replace H := Option.bind_eq_some_iff.mp H
               obtain ⟨t308, A400, H⟩ := H
               replace H : (some (t308 == x13_5)) = some r := H
               have A40 := Aside0.mk A400
               clear A400
               obtain rfl := Option.some.inj H
               go_wp2_with (first | (go_at_call 21; (with_reducible refine (entry_Same.calls k5 (wrap32 (a0)) _ _ l2 (wrap32 (a0)) _ _ x3_19 t308 _ ?side1 ?side2 ?side3 ?side4 A40.out).mono ?_); (case side1 => repeat (first | exact (Kd.C_below HR2.out HB.out) | (with_reducible refine Kd.C_alloc ?_ _) | (with_reducible refine Kd.C_drewN ?_ _) | (with_reducible refine Kd.C_drew ?_))); (case side2 => exact HC2.out); (case side3 => repeat (first | exact (Kd.R_reads' HO_3.out).2.2 | (with_reducible refine Kd.C_alloc ?_ _) | (with_reducible refine Kd.C_drewN ?_ _) | (with_reducible refine Kd.C_drew ?_))); (case side4 => exact (Kd.R_reads' HO_3.out).2.1); rintro e w41 ⟨rfl, hb⟩; have n0_ := Aside0.mk (Kd.R_below (by (with_reducible repeat (first | apply Kd.R_alloc | apply Kd.R_drewN | apply Kd.R_drew)); exact HO_3.out) hb); have n1_ := Aside0.mk (below_step (by repeat (first | (with_reducible first | exact HB.out | apply below_alloc | apply pw_below_drewN | apply below_drew1) | exact HB.out)) hb); clear HO_3; clear HB; have HO_3 := n0_; have HB := n1_; clear n0_ n1_; (try clear hb); (try clear hb2); (try clear hk); (try clear hi)))
               repeat (go_quiet (first | ((fail_if_success (have z_ := USA40_)); go_at_call 21; (with_reducible refine (entry_Same.calls k5 (wrap32 (a0)) _ _ l2 (wrap32 (a0)) _ _ x3_19 t308 _ ?side1 ?side2 ?side3 ?side4 A40.out).mono ?_); (case side1 => repeat (first | exact (Kd.C_below HR2.out HB.out) | (with_reducible refine Kd.C_alloc ?_ _) | (with_reducible refine Kd.C_drewN ?_ _) | (with_reducible refine Kd.C_drew ?_))); (case side2 => exact HC2.out); (case side3 => repeat (first | exact (Kd.R_reads' HO_3.out).2.2 | (with_reducible refine Kd.C_alloc ?_ _) | (with_reducible refine Kd.C_drewN ?_ _) | (with_reducible refine Kd.C_drew ?_))); (case side4 => exact (Kd.R_reads' HO_3.out).2.1); rintro e w41 ⟨rfl, hb⟩; have USA40_ := Aside0.mk (rfl : (0 : Nat) = 0); have n0_ := Aside0.mk (Kd.R_below (by (with_reducible repeat (first | apply Kd.R_alloc | apply Kd.R_drewN | apply Kd.R_drew)); exact HO_3.out) hb); have n1_ := Aside0.mk (below_step (by repeat (first | (with_reducible first | exact HB.out | apply below_alloc | apply pw_below_drewN | apply below_drew1) | exact HB.out)) hb); clear HO_3; clear HB; have HO_3 := n0_; have HB := n1_; clear n0_ n1_; (try clear hb); (try clear hb2); (try clear hk); (try clear hi))); try go_wp2_with (first | ((fail_if_success (have z_ := USA40_)); go_at_call 21; (with_reducible refine (entry_Same.calls k5 (wrap32 (a0)) _ _ l2 (wrap32 (a0)) _ _ x3_19 t308 _ ?side1 ?side2 ?side3 ?side4 A40.out).mono ?_); (case side1 => repeat (first | exact (Kd.C_below HR2.out HB.out) | (with_reducible refine Kd.C_alloc ?_ _) | (with_reducible refine Kd.C_drewN ?_ _) | (with_reducible refine Kd.C_drew ?_))); (case side2 => exact HC2.out); (case side3 => repeat (first | exact (Kd.R_reads' HO_3.out).2.2 | (with_reducible refine Kd.C_alloc ?_ _) | (with_reducible refine Kd.C_drewN ?_ _) | (with_reducible refine Kd.C_drew ?_))); (case side4 => exact (Kd.R_reads' HO_3.out).2.1); rintro e w41 ⟨rfl, hb⟩; have USA40_ := Aside0.mk (rfl : (0 : Nat) = 0); have n0_ := Aside0.mk (Kd.R_below (by (with_reducible repeat (first | apply Kd.R_alloc | apply Kd.R_drewN | apply Kd.R_drew)); exact HO_3.out) hb); have n1_ := Aside0.mk (below_step (by repeat (first | (with_reducible first | exact HB.out | apply below_alloc | apply pw_below_drewN | apply below_drew1) | exact HB.out)) hb); clear HO_3; clear HB; have HO_3 := n0_; have HB := n1_; clear n0_ n1_; (try clear hb); (try clear hb2); (try clear hk); (try clear hi))))
               go_ret
               exact ⟨by first | rfl | (simp [errW_none, errW_some] <;> rfl) | (simp only [← hji33]; first | rfl | (simp [errW_none, errW_some] <;> rfl)) | (simp [*, errW_none, errW_some] <;> rfl), by repeat (first | (with_reducible first | exact HB.out | apply below_alloc | apply pw_below_drewN | apply below_drew1) | exact HB.out)⟩
     ·replace c13 := Bool.eq_false_iff.mpr c13
      subst c13
      have H1 : (if a0 = a1 then (transposallaw09_EntrySames.j5 kj8 a0 a1 l2 l3 ((l2.length : Int) == (l3.length : Int))) else (transposallaw09_EntrySames.j5 kj8 a0 a1 l2 l3 false)) = some r := by rw [if_neg (show ¬ (false = true) by decide)] at H; exact H
      clear H
      have H := H1
      clear H1
      have HC42 := Aside0.mk H
      clear H
      go_upto_region 9 with (fail)
      repeat (go_quiet (fail); go_upto_region 9 with (fail))
      go_cut [13] (fun v13 wc => ∃ (kq : Nat) (x13_41 : Bool), v13 = .bool x13_41 ∧ Aside0 (transposallaw09_EntrySames.j5 kq a0 a1 l2 l3 x13_41 = some r) ∧ Aside0 (kq ≤ kj8) ∧ Aside0 (Below w.heap.size w wc))
      case first =>
       have H := HC42.out
       clear HC42
       by_cases c43 : a0 = a1
       ·rw [if_pos c43] at H
        have c43b0 : (a0 == a1) = true := beq_iff_eq.mpr c43
        have c43b1 : (a0 != a1) = false := bne_eq_false_iff_eq.mpr c43
        clear c43
        (first | rw [c43b0] | (simp only [i64_w, i32_w]; rw [c43b0]) | skip)
        have H' := Aside0.mk H
        clear H
        go_wp2
        repeat (go_quiet (fail); try go_wp2)
        go_meet
        case rel => exact ⟨_, (((l2.length : Int) == (l3.length : Int))), (by first | rfl | (simp; done) | (simp [*]; done)), H', ⟨by have := HJ8.out; first | omega | exact Nat.le_refl _⟩, ⟨by repeat (first | (with_reducible first | exact HB.out | apply below_alloc | apply pw_below_drewN | apply below_drew1) | exact HB.out)⟩⟩
       ·rw [if_neg c43] at H
        have c43b0 : (a0 == a1) = false := beq_eq_false_iff_ne.mpr c43
        have c43b1 : (a0 != a1) = true := bne_iff_ne.mpr c43
        (first | rw [c43b0] | (simp only [i64_w, i32_w]; rw [c43b0]) | skip)
        have H' := Aside0.mk H
        clear H
        go_wp2
        repeat (go_quiet (fail); try go_wp2)
        go_meet
        case rel => exact ⟨_, (false), (by first | rfl | (simp; done) | (simp [*]; done)), H', ⟨by have := HJ8.out; first | omega | exact Nat.le_refl _⟩, ⟨by repeat (first | (with_reducible first | exact HB.out | apply below_alloc | apply pw_below_drewN | apply below_drew1) | exact HB.out)⟩⟩
      case rest =>
       clear HC42
       try clear c1
       try clear c2
       try clear p2
       try clear q2
       try clear hx2
       try clear c3
       try clear p3
       try clear q3
       try clear hx3
       try clear c4
       try clear c6
       try clear p6
       try clear c8
       try clear c11
       try clear c11b0
       try clear c11b1
       try clear c12
       try clear c13
       try clear c17
       try clear c17b0
       try clear c17b1
       try clear c21
       try clear c22
       try clear c22b0
       try clear c22b1
       try clear c22b2
       try clear c24
       try clear c24b0
       try clear c25
       try clear c25b0
       try clear c26
       try clear p26
       try clear q26
       try clear hx26
       try clear hf26
       try clear c28
       try clear hx28
       try clear hf28
       try clear p30
       try clear q30
       try clear hx30
       try clear c31
       try clear c31b0
       try clear c31b1
       try clear p32
       try clear c35
       try clear c35b0
       try clear c36
       try clear c37
       try clear c37b0
       try clear c38
       try clear c38b0
       try clear c39
       try clear c39b0
       try clear c43
       try clear c43b0
       try clear c43b1
       try clear hx26_0
       try clear hx26_1
       try clear hx26_2
       try clear hx26_3
       try clear hx28_3
       try clear hx304_0
       try clear hx304_1
       try clear hx304_2
       try clear hx304_3
       try clear hx306_0
       try clear hx306_1
       try clear hx306_2
       try clear hx306_3
       try clear hx307_0
       try clear hx307_1
       try clear hx307_2
       try clear hx307_3
       try clear p2
       try clear p26
       try clear p3
       try clear p30
       try clear p304
       try clear p306
       try clear p307
       try clear p6
       try clear q2
       try clear q26
       try clear q3
       try clear q30
       try clear q304
       try clear q306
       try clear q307
       obtain ⟨kq, x13_41, rfl, HA, HJ41, HB⟩ := hcut
       cases kq with
       | zero => exact absurd HA.out (by simp [transposallaw09_EntrySames.j5])
       | succ kj41 =>
        have H := HA.out
        clear HA
        simp only [transposallaw09_EntrySames.j5] at H
        obtain ⟨ji44, hji44⟩ : ∃ j_ : Int, (mn (l2.length : Int) (l3.length : Int)) = j_ := ⟨_, rfl⟩
        replace H : (transposallaw09_EntrySames.l1 kj41 a0 a1 l2 l3 x13_41 ji44 0) = some r := by first | (rw [hji44] at H; exact H) | (simp only [hji44] at H ⊢; exact H)
        have hji44_ : (if (l3.length : Int) < (l2.length : Int) then (l3.length : Int) else (l2.length : Int)) = ji44 := hji44
        have hji44n_ : (if l3.length < l2.length then (l3.length : Int) else (l2.length : Int)) = ji44 := by have z_ := hji44_; simpa only [Int.ofNat_lt] using z_
        have H' := Aside0.mk H
        clear H
        go_wp2
        repeat (go_quiet (fail); try go_wp2)
        go_loopg [13, 67] kj41 (fun kq v13 v67 w' => ∃ (x13_3 : Bool) (x67_3 : Int), v13 = .bool x13_3 ∧ v67 = .int .i64 x67_3 ∧ Aside0 (transposallaw09_EntrySames.l1 kq a0 a1 l2 l3 x13_3 ji44 x67_3 = some r) ∧ Aside0 (kq ≤ kj41) ∧ Aside0 (Below w.heap.size w w'))
        case atStart => exact ⟨(x13_41), (0), (by first | rfl | (simp; done) | (simp [*]; done)), (by first | rfl | (simp; done) | (simp [*]; done)), H', ⟨Nat.le_refl _⟩, ⟨by repeat (first | (with_reducible first | exact HB.out | apply below_alloc | apply pw_below_drewN | apply below_drew1) | exact HB.out)⟩⟩
        case round =>
         clear H'
         try clear c1
         try clear c2
         try clear p2
         try clear q2
         try clear hx2
         try clear c3
         try clear p3
         try clear q3
         try clear hx3
         try clear c4
         try clear c6
         try clear p6
         try clear c8
         try clear c11
         try clear c11b0
         try clear c11b1
         try clear c12
         try clear c13
         try clear c17
         try clear c17b0
         try clear c17b1
         try clear c21
         try clear c22
         try clear c22b0
         try clear c22b1
         try clear c22b2
         try clear c24
         try clear c24b0
         try clear c25
         try clear c25b0
         try clear c26
         try clear p26
         try clear q26
         try clear hx26
         try clear hf26
         try clear c28
         try clear hx28
         try clear hf28
         try clear p30
         try clear q30
         try clear hx30
         try clear c31
         try clear c31b0
         try clear c31b1
         try clear p32
         try clear c35
         try clear c35b0
         try clear c36
         try clear c37
         try clear c37b0
         try clear c38
         try clear c38b0
         try clear c39
         try clear c39b0
         try clear c43
         try clear c43b0
         try clear c43b1
         try clear hx26_0
         try clear hx26_1
         try clear hx26_2
         try clear hx26_3
         try clear hx28_3
         try clear hx304_0
         try clear hx304_1
         try clear hx304_2
         try clear hx304_3
         try clear hx306_0
         try clear hx306_1
         try clear hx306_2
         try clear hx306_3
         try clear hx307_0
         try clear hx307_1
         try clear hx307_2
         try clear hx307_3
         try clear p2
         try clear p26
         try clear p3
         try clear p30
         try clear p304
         try clear p306
         try clear p307
         try clear p32
         try clear p6
         try clear q2
         try clear q26
         try clear q3
         try clear q30
         try clear q304
         try clear q306
         try clear q307
         obtain ⟨x13_3, x67_3, rfl, rfl, HA, HK3, HB⟩ := hrel
         cases gk with
         | zero => exact absurd HA.out (by simp [transposallaw09_EntrySames.l1])
         | succ k3 =>
          have H := HA.out
          clear HA
          simp only [transposallaw09_EntrySames.l1] at H
          by_cases c45 : x67_3 < ji44
          ·rw [if_pos c45] at H
           have c45b0 : decide (x67_3 < ji44) = true := decide_eq_true c45
           clear c45
           by_cases c46 : x13_3 = true
           ·subst c46
            have H1 : (if 0 ≤ x67_3 then (if x67_3 < (l2.length : Int) then (if x67_3 < (l3.length : Int) then (transposallaw09_EntrySames.l1 k3 a0 a1 l2 l3 (((rd_T28 l2 x67_3).f0) == ((rd_T28 l3 x67_3).f0) && (((rd_T28 l2 x67_3).f1) == ((rd_T28 l3 x67_3).f1) && (((rd_T28 l2 x67_3).f2) == ((rd_T28 l3 x67_3).f2) && (((rd_T28 l2 x67_3).f3) == ((rd_T28 l3 x67_3).f3))))) ji44 (wrap64 (x67_3 + 1))) else (none)) else (none)) else (none)) = some r := by rw [if_pos rfl] at H; exact H
            clear H
            have H := H1
            clear H1
            by_cases c47 : 0 ≤ x67_3
            ·rw [if_pos c47] at H
             have c47b0 : decide (0 ≤ x67_3) = true := decide_eq_true c47
             clear c47
             by_cases c48 : x67_3 < (l2.length : Int)
             ·rw [if_pos c48] at H
              have c48b0 : decide (x67_3 < (l2.length : Int)) = true := decide_eq_true c48
              clear c48
              by_cases c49 : x67_3 < (l3.length : Int)
              ·rw [if_pos c49] at H
               have c49b0 : decide (x67_3 < (l3.length : Int)) = true := decide_eq_true c49
               clear c49
               have H' := Aside0.mk H
               clear H
               have p309 : 0 ≤ (x67_3 : Int) := of_decide_eq_true (by first | (with_reducible assumption) | assumption)
               have q309 : x67_3 < (l2.length : Int) := of_decide_eq_true (by first | (with_reducible assumption) | assumption)
               obtain ⟨ad309, e309, hx309_0, hx309_1, hx309_2, hx309_3⟩ := at_T28 HR2.out x67_3 p309 q309
               cases e309
               replace hx309_0 := (HB.out.cell (World.block_lt_of_cell? w _ hx309_0)).trans hx309_0
               replace hx309_1 := (HB.out.cell (World.block_lt_of_cell? w _ hx309_1)).trans hx309_1
               replace hx309_2 := (HB.out.cell (World.block_lt_of_cell? w _ hx309_2)).trans hx309_2
               replace hx309_3 := (HB.out.cell (World.block_lt_of_cell? w _ hx309_3)).trans hx309_3
               replace p309 := eq_true p309
               replace q309 := eq_true q309
               have p310 : 0 ≤ (x67_3 : Int) := of_decide_eq_true (by first | (with_reducible assumption) | assumption)
               have q310 : x67_3 < (l3.length : Int) := of_decide_eq_true (by first | (with_reducible assumption) | assumption)
               obtain ⟨ad310, e310, hx310_0, hx310_1, hx310_2, hx310_3⟩ := at_T28 HR3.out x67_3 p310 q310
               cases e310
               replace hx310_0 := (HB.out.cell (World.block_lt_of_cell? w _ hx310_0)).trans hx310_0
               replace hx310_1 := (HB.out.cell (World.block_lt_of_cell? w _ hx310_1)).trans hx310_1
               replace hx310_2 := (HB.out.cell (World.block_lt_of_cell? w _ hx310_2)).trans hx310_2
               replace hx310_3 := (HB.out.cell (World.block_lt_of_cell? w _ hx310_3)).trans hx310_3
               replace p310 := eq_true p310
               replace q310 := eq_true q310
               go_wp2
               repeat (go_quiet (fail); try go_wp2)
               go_roundg k3
               case measure => have := HJ8.out; have := HJ41.out; have := HK3.out; omega
               case rel => exact ⟨((((rd_T28 l2 x67_3).f0) == ((rd_T28 l3 x67_3).f0) && (((rd_T28 l2 x67_3).f1) == ((rd_T28 l3 x67_3).f1) && (((rd_T28 l2 x67_3).f2) == ((rd_T28 l3 x67_3).f2) && (((rd_T28 l2 x67_3).f3) == ((rd_T28 l3 x67_3).f3)))))), (wrap64 (x67_3 + 1)), (by first | rfl | (simp; done) | (simp [*]; done)), (by first | rfl | (simp; done) | (simp [*]; done)), H', ⟨by have := HJ8.out; have := HJ41.out; have := HK3.out; omega⟩, ⟨by repeat (first | (with_reducible first | exact HB.out | apply below_alloc | apply pw_below_drewN | apply below_drew1) | exact HB.out)⟩⟩
              ·rw [if_neg c49] at H
               exact absurd H (by simp)
             ·rw [if_neg c48] at H
              exact absurd H (by simp)
            ·rw [if_neg c47] at H
             exact absurd H (by simp)
           ·replace c46 := Bool.eq_false_iff.mpr c46
            subst c46
            have H1 : (transposallaw09_EntrySames.l1 k3 a0 a1 l2 l3 false ji44 (wrap64 (x67_3 + 1))) = some r := by rw [if_neg (show ¬ (false = true) by decide)] at H; exact H
            clear H
            have H := H1
            clear H1
            have H' := Aside0.mk H
            clear H
            go_wp2
            repeat (go_quiet (fail); try go_wp2)
            go_roundg k3
            case measure => have := HJ8.out; have := HJ41.out; have := HK3.out; omega
            case rel => exact ⟨(false), (wrap64 (x67_3 + 1)), (by first | rfl | (simp; done) | (simp [*]; done)), (by first | rfl | (simp; done) | (simp [*]; done)), H', ⟨by have := HJ8.out; have := HJ41.out; have := HK3.out; omega⟩, ⟨by repeat (first | (with_reducible first | exact HB.out | apply below_alloc | apply pw_below_drewN | apply below_drew1) | exact HB.out)⟩⟩
          ·rw [if_neg c45] at H
           have c45b0 : decide (x67_3 < ji44) = false := decide_eq_false c45
           clear c45
           replace H := Option.bind_eq_some_iff.mp H
           obtain ⟨t311, A500, H⟩ := H
           replace H : (some (t311 == x13_3)) = some r := H
           have A50 := Aside0.mk A500
           clear A500
           obtain rfl := Option.some.inj H
           go_wp2_with (first | (go_at_call 21; (with_reducible refine (entry_Same.calls k3 (wrap32 (a0)) _ _ l2 (wrap32 (a1)) _ _ l3 t311 _ ?side1 ?side2 ?side3 ?side4 A50.out).mono ?_); (case side1 => repeat (first | exact (Kd.C_below HR2.out HB.out) | (with_reducible refine Kd.C_alloc ?_ _) | (with_reducible refine Kd.C_drewN ?_ _) | (with_reducible refine Kd.C_drew ?_))); (case side2 => exact HC2.out); (case side3 => repeat (first | exact (Kd.C_below HR3.out HB.out) | (with_reducible refine Kd.C_alloc ?_ _) | (with_reducible refine Kd.C_drewN ?_ _) | (with_reducible refine Kd.C_drew ?_))); (case side4 => exact HC3.out); rintro e w51 ⟨rfl, hb⟩; have n0_ := Aside0.mk (below_step (by repeat (first | (with_reducible first | exact HB.out | apply below_alloc | apply pw_below_drewN | apply below_drew1) | exact HB.out)) hb); clear HB; have HB := n0_; clear n0_; (try clear hb); (try clear hb2); (try clear hk); (try clear hi)))
           repeat (go_quiet (first | ((fail_if_success (have z_ := USA50_)); go_at_call 21; (with_reducible refine (entry_Same.calls k3 (wrap32 (a0)) _ _ l2 (wrap32 (a1)) _ _ l3 t311 _ ?side1 ?side2 ?side3 ?side4 A50.out).mono ?_); (case side1 => repeat (first | exact (Kd.C_below HR2.out HB.out) | (with_reducible refine Kd.C_alloc ?_ _) | (with_reducible refine Kd.C_drewN ?_ _) | (with_reducible refine Kd.C_drew ?_))); (case side2 => exact HC2.out); (case side3 => repeat (first | exact (Kd.C_below HR3.out HB.out) | (with_reducible refine Kd.C_alloc ?_ _) | (with_reducible refine Kd.C_drewN ?_ _) | (with_reducible refine Kd.C_drew ?_))); (case side4 => exact HC3.out); rintro e w51 ⟨rfl, hb⟩; have USA50_ := Aside0.mk (rfl : (0 : Nat) = 0); have n0_ := Aside0.mk (below_step (by repeat (first | (with_reducible first | exact HB.out | apply below_alloc | apply pw_below_drewN | apply below_drew1) | exact HB.out)) hb); clear HB; have HB := n0_; clear n0_; (try clear hb); (try clear hb2); (try clear hk); (try clear hi))); try go_wp2_with (first | ((fail_if_success (have z_ := USA50_)); go_at_call 21; (with_reducible refine (entry_Same.calls k3 (wrap32 (a0)) _ _ l2 (wrap32 (a1)) _ _ l3 t311 _ ?side1 ?side2 ?side3 ?side4 A50.out).mono ?_); (case side1 => repeat (first | exact (Kd.C_below HR2.out HB.out) | (with_reducible refine Kd.C_alloc ?_ _) | (with_reducible refine Kd.C_drewN ?_ _) | (with_reducible refine Kd.C_drew ?_))); (case side2 => exact HC2.out); (case side3 => repeat (first | exact (Kd.C_below HR3.out HB.out) | (with_reducible refine Kd.C_alloc ?_ _) | (with_reducible refine Kd.C_drewN ?_ _) | (with_reducible refine Kd.C_drew ?_))); (case side4 => exact HC3.out); rintro e w51 ⟨rfl, hb⟩; have USA50_ := Aside0.mk (rfl : (0 : Nat) = 0); have n0_ := Aside0.mk (below_step (by repeat (first | (with_reducible first | exact HB.out | apply below_alloc | apply pw_below_drewN | apply below_drew1) | exact HB.out)) hb); clear HB; have HB := n0_; clear n0_; (try clear hb); (try clear hb2); (try clear hk); (try clear hi))))
           go_ret
           exact ⟨by first | rfl | (simp [errW_none, errW_some] <;> rfl) | (simp only [← hji44]; first | rfl | (simp [errW_none, errW_some] <;> rfl)) | (simp [*, errW_none, errW_some] <;> rfl), by repeat (first | (with_reducible first | exact HB.out | apply below_alloc | apply pw_below_drewN | apply below_drew1) | exact HB.out)⟩
 ·replace c8 := Bool.eq_false_iff.mpr c8
  subst c8
  have H1 : (some false) = some r := by rw [if_neg (show ¬ (false = true) by decide)] at H; exact H
  clear H
  have H := H1
  clear H1
  obtain rfl := Option.some.inj H
  go_enter Tryz.func6, Tryz.ntmps6
  go_wp2_with (first | (go_at_call 13; (with_reducible refine (transposallaw09_Awake.calls k  false _ ?side1 A7.out).mono ?_); (case side1 => exact Glob.below (by repeat (first | (with_reducible first | exact HB.out | apply below_alloc | apply pw_below_drewN | apply below_drew1) | exact HB.out)) HG.out); rintro e w52 ⟨rfl, hb⟩; have n0_ := Aside0.mk (below_step (by repeat (first | (with_reducible first | exact HB.out | apply below_alloc | apply pw_below_drewN | apply below_drew1) | exact HB.out)) hb); clear HB; have HB := n0_; clear n0_; (try clear hb); (try clear hb2); (try clear hk); (try clear hi)))
  repeat (go_quiet (first | ((fail_if_success (have z_ := USA7_)); go_at_call 13; (with_reducible refine (transposallaw09_Awake.calls k  false _ ?side1 A7.out).mono ?_); (case side1 => exact Glob.below (by repeat (first | (with_reducible first | exact HB.out | apply below_alloc | apply pw_below_drewN | apply below_drew1) | exact HB.out)) HG.out); rintro e w52 ⟨rfl, hb⟩; have USA7_ := Aside0.mk (rfl : (0 : Nat) = 0); have n0_ := Aside0.mk (below_step (by repeat (first | (with_reducible first | exact HB.out | apply below_alloc | apply pw_below_drewN | apply below_drew1) | exact HB.out)) hb); clear HB; have HB := n0_; clear n0_; (try clear hb); (try clear hb2); (try clear hk); (try clear hi))); try go_wp2_with (first | ((fail_if_success (have z_ := USA7_)); go_at_call 13; (with_reducible refine (transposallaw09_Awake.calls k  false _ ?side1 A7.out).mono ?_); (case side1 => exact Glob.below (by repeat (first | (with_reducible first | exact HB.out | apply below_alloc | apply pw_below_drewN | apply below_drew1) | exact HB.out)) HG.out); rintro e w52 ⟨rfl, hb⟩; have USA7_ := Aside0.mk (rfl : (0 : Nat) = 0); have n0_ := Aside0.mk (below_step (by repeat (first | (with_reducible first | exact HB.out | apply below_alloc | apply pw_below_drewN | apply below_drew1) | exact HB.out)) hb); clear HB; have HB := n0_; clear n0_; (try clear hb); (try clear hb2); (try clear hk); (try clear hi))))
  go_ret
  exact ⟨by first | rfl | (simp [errW_none, errW_some] <;> rfl) | (simp [*, errW_none, errW_some] <;> rfl), by repeat (first | (with_reducible first | exact HB.out | apply below_alloc | apply pw_below_drewN | apply below_drew1) | exact HB.out)⟩

/-- THE ONE PURE STATEMENT of transposallaw09_EntrySames: yours. -/
def transposallaw09_EntrySames.Pure : Prop := ∀ (a0 : Int) (a1 : Int) (l2 : List (S28)) (l3 : List (S28)) (a4 : Bool) (a5 : Int), (Lit.int .i16 a0).wf = true → (Lit.int .i16 a1).wf = true → l2.length ≤ maxLen → (∀ y, y ∈ l2 → ((Lit.int .u32 y.f0).wf = true ∧ (Lit.int .u16 y.f1).wf = true ∧ (Lit.int .u16 y.f2).wf = true ∧ (Lit.int .i64 y.f3).wf = true)) → l3.length ≤ maxLen → (∀ y, y ∈ l3 → ((Lit.int .u32 y.f0).wf = true ∧ (Lit.int .u16 y.f1).wf = true ∧ (Lit.int .u16 y.f2).wf = true ∧ (Lit.int .i64 y.f3).wf = true)) → (Lit.int .u8 a5).wf = true → ∃ k, transposallaw09_EntrySames.f k a0 a1 l2 l3 a4 a5 = some true

end Go.Proofs.YtddaogebacigbaaGreatDoor.XA
