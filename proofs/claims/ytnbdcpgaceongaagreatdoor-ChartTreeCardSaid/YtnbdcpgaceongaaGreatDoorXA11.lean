-- Written by a program of this session's (wip/xp) out of the translation; given functions by hand.
import Derived.Test.YtnbdcpgaceongaaGreatDoorXA0
import Derived.Test.YtnbdcpgaceongaaGreatDoorXA8
import Derived.Test.YtnbdcpgaceongaaGreatDoorXA9
import Derived.Test.YtnbdcpgaceongaaGreatDoorXA10
namespace Go.Proofs.YtnbdcpgaceongaaGreatDoor.XA
open Go.RowKit Go.Proofs.YtnbdcpgaceongaaGreatDoorW.PrintWords Go.Proofs.YtnbdcpgaceongaaGreatDoorW.PrintLast Go.Proofs.YtnbdcpgaceongaaGreatDoorW.PrintMore
attribute [local go_sem] max2_int min2_int max_two min_two max_three min_three max_four min_four   -- for this text's walks alone
set_option linter.unusedVariables false
set_option linter.unusedSimpArgs false

/-! ### transposallaw06_ChartTree: function 3 -/
mutual
def transposallaw06_ChartTree.l0 : Nat → List (S30) → List (S30) → Int → Int → Option (Bool)
 | 0, _, _, _, _ => none
 | k + 1, x3, x12, x13, x14 => if x14 < x13 then (if 0 ≤ x14 then (if x14 < (x12.length : Int) then ((chart_Chart_Within.f k x3 ((rd_T30 x12 x14).f0) ((rd_T30 x12 x14).f0)).bind fun t287 => (if t287 = true then (if ((rd_T30 x12 x14).f3) = 0 then (transposallaw06_ChartTree.j1 k x3 x12 x13 x14 false ((rd_T30 x12 x14).f0) ((rd_T30 x12 x14).f1) ((rd_T30 x12 x14).f2) ((rd_T30 x12 x14).f3)) else ((chart_Chart_Within.f k x3 ((rd_T30 x12 x14).f0) ((rd_T30 x12 x14).f3)).bind fun t288 => (if t288 = true then ((chart_Chart_Within.f k x3 ((rd_T30 x12 x14).f3) ((rd_T30 x12 x14).f0)).bind fun t289 => (transposallaw06_ChartTree.j1 k x3 x12 x13 x14 t289 ((rd_T30 x12 x14).f0) ((rd_T30 x12 x14).f1) ((rd_T30 x12 x14).f2) ((rd_T30 x12 x14).f3))) else (transposallaw06_ChartTree.j1 k x3 x12 x13 x14 true ((rd_T30 x12 x14).f0) ((rd_T30 x12 x14).f1) ((rd_T30 x12 x14).f2) ((rd_T30 x12 x14).f3))))) else (transposallaw06_ChartTree.j1 k x3 x12 x13 x14 true ((rd_T30 x12 x14).f0) ((rd_T30 x12 x14).f1) ((rd_T30 x12 x14).f2) ((rd_T30 x12 x14).f3)))) else (none)) else (none)) else (some true)
def transposallaw06_ChartTree.j1 : Nat → List (S30) → List (S30) → Int → Int → Bool → Int → ByteArray → Int → Int → Option (Bool)
 | 0, _, _, _, _, _, _, _, _, _ => none
 | k + 1, x3, x12, x13, x14, x46, x287000, x287001, x287002, x287003 => if x46 = true then (some false) else (transposallaw06_ChartTree.l1 k x3 x12 x13 x14 x3 (x3.length : Int) 0 x287000 x287001 x287002 x287003)
def transposallaw06_ChartTree.l1 : Nat → List (S30) → List (S30) → Int → Int → List (S30) → Int → Int → Int → ByteArray → Int → Int → Option (Bool)
 | 0, _, _, _, _, _, _, _, _, _, _, _ => none
 | k + 1, x3, x12, x13, x14, x47, x48, x49, x287000, x287001, x287002, x287003 => if x49 < x48 then (if 0 ≤ x49 then (if x49 < (x47.length : Int) then ((chart_Chart_Within.f k x3 x287000 ((rd_T30 x47 x49).f0)).bind fun t292 => (if t292 = true then (if x287002 = ((rd_T30 x47 x49).f2) then ((chart_Chart_Within.f k x3 x287000 ((rd_T30 x47 x49).f0)).bind fun t293 => (if t293 = true then ((chart_Chart_Within.f k x3 ((rd_T30 x47 x49).f0) x287000).bind fun t294 => (if t294 = true then (transposallaw06_ChartTree.j3 k x3 x12 x13 x14 x47 x48 x49 (x287000 != ((rd_T30 x47 x49).f0)) x287000 x287001 x287002 x287003 ((rd_T30 x47 x49).f0) ((rd_T30 x47 x49).f1) ((rd_T30 x47 x49).f2) ((rd_T30 x47 x49).f3)) else (transposallaw06_ChartTree.j3 k x3 x12 x13 x14 x47 x48 x49 false x287000 x287001 x287002 x287003 ((rd_T30 x47 x49).f0) ((rd_T30 x47 x49).f1) ((rd_T30 x47 x49).f2) ((rd_T30 x47 x49).f3)))) else (transposallaw06_ChartTree.j3 k x3 x12 x13 x14 x47 x48 x49 false x287000 x287001 x287002 x287003 ((rd_T30 x47 x49).f0) ((rd_T30 x47 x49).f1) ((rd_T30 x47 x49).f2) ((rd_T30 x47 x49).f3)))) else (transposallaw06_ChartTree.j3 k x3 x12 x13 x14 x47 x48 x49 true x287000 x287001 x287002 x287003 ((rd_T30 x47 x49).f0) ((rd_T30 x47 x49).f1) ((rd_T30 x47 x49).f2) ((rd_T30 x47 x49).f3))) else ((chart_Chart_Within.f k x3 x287000 ((rd_T30 x47 x49).f0)).bind fun t295 => (if t295 = true then ((chart_Chart_Within.f k x3 ((rd_T30 x47 x49).f0) x287000).bind fun t296 => (if t296 = true then (transposallaw06_ChartTree.j3 k x3 x12 x13 x14 x47 x48 x49 (x287000 != ((rd_T30 x47 x49).f0)) x287000 x287001 x287002 x287003 ((rd_T30 x47 x49).f0) ((rd_T30 x47 x49).f1) ((rd_T30 x47 x49).f2) ((rd_T30 x47 x49).f3)) else (transposallaw06_ChartTree.j3 k x3 x12 x13 x14 x47 x48 x49 false x287000 x287001 x287002 x287003 ((rd_T30 x47 x49).f0) ((rd_T30 x47 x49).f1) ((rd_T30 x47 x49).f2) ((rd_T30 x47 x49).f3)))) else (transposallaw06_ChartTree.j3 k x3 x12 x13 x14 x47 x48 x49 false x287000 x287001 x287002 x287003 ((rd_T30 x47 x49).f0) ((rd_T30 x47 x49).f1) ((rd_T30 x47 x49).f2) ((rd_T30 x47 x49).f3)))))) else (none)) else (none)) else (transposallaw06_ChartTree.l0 k x3 x12 x13 (wrap64 (x14 + 1)))
def transposallaw06_ChartTree.j3 : Nat → List (S30) → List (S30) → Int → Int → List (S30) → Int → Int → Bool → Int → ByteArray → Int → Int → Int → ByteArray → Int → Int → Option (Bool)
 | 0, _, _, _, _, _, _, _, _, _, _, _, _, _, _, _, _ => none
 | k + 1, x3, x12, x13, x14, x47, x48, x49, x88, x287000, x287001, x287002, x287003, x292000, x292001, x292002, x292003 => if x88 = true then (some false) else (if x287000 = x292000 then (transposallaw06_ChartTree.j4 k x3 x12 x13 x14 x47 x48 x49 false x287000 x287001 x287002 x287003) else ((chart_Chart_Within.f k x3 x287000 x292000).bind fun t297 => (if x287003 = 0 then (transposallaw06_ChartTree.j4 k x3 x12 x13 x14 x47 x48 x49 (t297 != false) x287000 x287001 x287002 x287003) else ((chart_Chart_Within.f k x3 x287003 x292000).bind fun t298 => (transposallaw06_ChartTree.j4 k x3 x12 x13 x14 x47 x48 x49 (t297 != t298) x287000 x287001 x287002 x287003)))))
def transposallaw06_ChartTree.j4 : Nat → List (S30) → List (S30) → Int → Int → List (S30) → Int → Int → Bool → Int → ByteArray → Int → Int → Option (Bool)
 | 0, _, _, _, _, _, _, _, _, _, _, _, _ => none
 | k + 1, x3, x12, x13, x14, x47, x48, x49, x113, x287000, x287001, x287002, x287003 => if x113 = true then (some false) else (transposallaw06_ChartTree.l1 k x3 x12 x13 x14 x47 x48 (wrap64 (x49 + 1)) x287000 x287001 x287002 x287003)
end
def transposallaw06_ChartTree.f (k : Nat) (l0 : List (S59)) : Option (Bool) := (transposallaw06_Awake.f k).bind fun t281 => (if t281 = true then ((transposallaw06_Make.f k l0).bind fun t282 => (transposallaw06_ChartTree.l0 k t282 t282 (t282.length : Int) 0)) else (some false))
theorem transposallaw06_ChartTree.mono_l : ∀ k, (∀ y0 y1 y2 y3, LeO (transposallaw06_ChartTree.l0 k y0 y1 y2 y3) (transposallaw06_ChartTree.l0 (k + 1) y0 y1 y2 y3)) ∧ (∀ y0 y1 y2 y3 y4 y5 y6 y7 y8, LeO (transposallaw06_ChartTree.j1 k y0 y1 y2 y3 y4 y5 y6 y7 y8) (transposallaw06_ChartTree.j1 (k + 1) y0 y1 y2 y3 y4 y5 y6 y7 y8)) ∧ (∀ y0 y1 y2 y3 y4 y5 y6 y7 y8 y9 y10, LeO (transposallaw06_ChartTree.l1 k y0 y1 y2 y3 y4 y5 y6 y7 y8 y9 y10) (transposallaw06_ChartTree.l1 (k + 1) y0 y1 y2 y3 y4 y5 y6 y7 y8 y9 y10)) ∧ (∀ y0 y1 y2 y3 y4 y5 y6 y7 y8 y9 y10 y11 y12 y13 y14 y15, LeO (transposallaw06_ChartTree.j3 k y0 y1 y2 y3 y4 y5 y6 y7 y8 y9 y10 y11 y12 y13 y14 y15) (transposallaw06_ChartTree.j3 (k + 1) y0 y1 y2 y3 y4 y5 y6 y7 y8 y9 y10 y11 y12 y13 y14 y15)) ∧ (∀ y0 y1 y2 y3 y4 y5 y6 y7 y8 y9 y10 y11, LeO (transposallaw06_ChartTree.j4 k y0 y1 y2 y3 y4 y5 y6 y7 y8 y9 y10 y11) (transposallaw06_ChartTree.j4 (k + 1) y0 y1 y2 y3 y4 y5 y6 y7 y8 y9 y10 y11))
 | 0 => ⟨fun _ _ _ _ r h => by simp [transposallaw06_ChartTree.l0] at h, fun _ _ _ _ _ _ _ _ _ r h => by simp [transposallaw06_ChartTree.j1] at h, fun _ _ _ _ _ _ _ _ _ _ _ r h => by simp [transposallaw06_ChartTree.l1] at h, fun _ _ _ _ _ _ _ _ _ _ _ _ _ _ _ _ r h => by simp [transposallaw06_ChartTree.j3] at h, fun _ _ _ _ _ _ _ _ _ _ _ _ r h => by simp [transposallaw06_ChartTree.j4] at h⟩
 | k + 1 => by
  obtain ⟨ih0, ih1, ih2, ih3, ih4⟩ := transposallaw06_ChartTree.mono_l k
  refine ⟨?_, ?_, ?_, ?_, ?_⟩
  ·intro y0 y1 y2 y3
   unfold transposallaw06_ChartTree.l0
   repeat' first
   | (with_reducible exact ih0 _ _ _ _)
   | (with_reducible exact ih1 _ _ _ _ _ _ _ _ _)
   | (with_reducible exact ih2 _ _ _ _ _ _ _ _ _ _ _)
   | (with_reducible exact ih3 _ _ _ _ _ _ _ _ _ _ _ _ _ _ _ _)
   | (with_reducible exact ih4 _ _ _ _ _ _ _ _ _ _ _ _)
   | (with_reducible exact chart_Chart_Within.mono _ _ _ _)
   | (with_reducible exact transposallaw06_Awake.mono _)
   | (with_reducible exact transposallaw06_Make.mono _ _)
   | (with_reducible exact LeO.refl _)
   | (with_reducible exact LeO.none _)
   | (with_reducible refine LeO.ite ?_ ?_)
   | (with_reducible refine LeO.bind ?_ (fun _ => ?_))
   | exact ih0 _ _ _ _
   | exact ih1 _ _ _ _ _ _ _ _ _
   | exact ih2 _ _ _ _ _ _ _ _ _ _ _
   | exact ih3 _ _ _ _ _ _ _ _ _ _ _ _ _ _ _ _
   | exact ih4 _ _ _ _ _ _ _ _ _ _ _ _
   | exact chart_Chart_Within.mono _ _ _ _
   | exact transposallaw06_Awake.mono _
   | exact transposallaw06_Make.mono _ _
   | exact LeO.none _
   | refine LeO.ite ?_ ?_
   | refine LeO.bind ?_ (fun _ => ?_)
  ·intro y0 y1 y2 y3 y4 y5 y6 y7 y8
   unfold transposallaw06_ChartTree.j1
   repeat' first
   | (with_reducible exact ih0 _ _ _ _)
   | (with_reducible exact ih1 _ _ _ _ _ _ _ _ _)
   | (with_reducible exact ih2 _ _ _ _ _ _ _ _ _ _ _)
   | (with_reducible exact ih3 _ _ _ _ _ _ _ _ _ _ _ _ _ _ _ _)
   | (with_reducible exact ih4 _ _ _ _ _ _ _ _ _ _ _ _)
   | (with_reducible exact chart_Chart_Within.mono _ _ _ _)
   | (with_reducible exact transposallaw06_Awake.mono _)
   | (with_reducible exact transposallaw06_Make.mono _ _)
   | (with_reducible exact LeO.refl _)
   | (with_reducible exact LeO.none _)
   | (with_reducible refine LeO.ite ?_ ?_)
   | (with_reducible refine LeO.bind ?_ (fun _ => ?_))
   | exact ih0 _ _ _ _
   | exact ih1 _ _ _ _ _ _ _ _ _
   | exact ih2 _ _ _ _ _ _ _ _ _ _ _
   | exact ih3 _ _ _ _ _ _ _ _ _ _ _ _ _ _ _ _
   | exact ih4 _ _ _ _ _ _ _ _ _ _ _ _
   | exact chart_Chart_Within.mono _ _ _ _
   | exact transposallaw06_Awake.mono _
   | exact transposallaw06_Make.mono _ _
   | exact LeO.none _
   | refine LeO.ite ?_ ?_
   | refine LeO.bind ?_ (fun _ => ?_)
  ·intro y0 y1 y2 y3 y4 y5 y6 y7 y8 y9 y10
   unfold transposallaw06_ChartTree.l1
   repeat' first
   | (with_reducible exact ih0 _ _ _ _)
   | (with_reducible exact ih1 _ _ _ _ _ _ _ _ _)
   | (with_reducible exact ih2 _ _ _ _ _ _ _ _ _ _ _)
   | (with_reducible exact ih3 _ _ _ _ _ _ _ _ _ _ _ _ _ _ _ _)
   | (with_reducible exact ih4 _ _ _ _ _ _ _ _ _ _ _ _)
   | (with_reducible exact chart_Chart_Within.mono _ _ _ _)
   | (with_reducible exact transposallaw06_Awake.mono _)
   | (with_reducible exact transposallaw06_Make.mono _ _)
   | (with_reducible exact LeO.refl _)
   | (with_reducible exact LeO.none _)
   | (with_reducible refine LeO.ite ?_ ?_)
   | (with_reducible refine LeO.bind ?_ (fun _ => ?_))
   | exact ih0 _ _ _ _
   | exact ih1 _ _ _ _ _ _ _ _ _
   | exact ih2 _ _ _ _ _ _ _ _ _ _ _
   | exact ih3 _ _ _ _ _ _ _ _ _ _ _ _ _ _ _ _
   | exact ih4 _ _ _ _ _ _ _ _ _ _ _ _
   | exact chart_Chart_Within.mono _ _ _ _
   | exact transposallaw06_Awake.mono _
   | exact transposallaw06_Make.mono _ _
   | exact LeO.none _
   | refine LeO.ite ?_ ?_
   | refine LeO.bind ?_ (fun _ => ?_)
  ·intro y0 y1 y2 y3 y4 y5 y6 y7 y8 y9 y10 y11 y12 y13 y14 y15
   unfold transposallaw06_ChartTree.j3
   repeat' first
   | (with_reducible exact ih0 _ _ _ _)
   | (with_reducible exact ih1 _ _ _ _ _ _ _ _ _)
   | (with_reducible exact ih2 _ _ _ _ _ _ _ _ _ _ _)
   | (with_reducible exact ih3 _ _ _ _ _ _ _ _ _ _ _ _ _ _ _ _)
   | (with_reducible exact ih4 _ _ _ _ _ _ _ _ _ _ _ _)
   | (with_reducible exact chart_Chart_Within.mono _ _ _ _)
   | (with_reducible exact transposallaw06_Awake.mono _)
   | (with_reducible exact transposallaw06_Make.mono _ _)
   | (with_reducible exact LeO.refl _)
   | (with_reducible exact LeO.none _)
   | (with_reducible refine LeO.ite ?_ ?_)
   | (with_reducible refine LeO.bind ?_ (fun _ => ?_))
   | exact ih0 _ _ _ _
   | exact ih1 _ _ _ _ _ _ _ _ _
   | exact ih2 _ _ _ _ _ _ _ _ _ _ _
   | exact ih3 _ _ _ _ _ _ _ _ _ _ _ _ _ _ _ _
   | exact ih4 _ _ _ _ _ _ _ _ _ _ _ _
   | exact chart_Chart_Within.mono _ _ _ _
   | exact transposallaw06_Awake.mono _
   | exact transposallaw06_Make.mono _ _
   | exact LeO.none _
   | refine LeO.ite ?_ ?_
   | refine LeO.bind ?_ (fun _ => ?_)
  ·intro y0 y1 y2 y3 y4 y5 y6 y7 y8 y9 y10 y11
   unfold transposallaw06_ChartTree.j4
   repeat' first
   | (with_reducible exact ih0 _ _ _ _)
   | (with_reducible exact ih1 _ _ _ _ _ _ _ _ _)
   | (with_reducible exact ih2 _ _ _ _ _ _ _ _ _ _ _)
   | (with_reducible exact ih3 _ _ _ _ _ _ _ _ _ _ _ _ _ _ _ _)
   | (with_reducible exact ih4 _ _ _ _ _ _ _ _ _ _ _ _)
   | (with_reducible exact chart_Chart_Within.mono _ _ _ _)
   | (with_reducible exact transposallaw06_Awake.mono _)
   | (with_reducible exact transposallaw06_Make.mono _ _)
   | (with_reducible exact LeO.refl _)
   | (with_reducible exact LeO.none _)
   | (with_reducible refine LeO.ite ?_ ?_)
   | (with_reducible refine LeO.bind ?_ (fun _ => ?_))
   | exact ih0 _ _ _ _
   | exact ih1 _ _ _ _ _ _ _ _ _
   | exact ih2 _ _ _ _ _ _ _ _ _ _ _
   | exact ih3 _ _ _ _ _ _ _ _ _ _ _ _ _ _ _ _
   | exact ih4 _ _ _ _ _ _ _ _ _ _ _ _
   | exact chart_Chart_Within.mono _ _ _ _
   | exact transposallaw06_Awake.mono _
   | exact transposallaw06_Make.mono _ _
   | exact LeO.none _
   | refine LeO.ite ?_ ?_
   | refine LeO.bind ?_ (fun _ => ?_)
theorem transposallaw06_ChartTree.mono : ∀ a0 k, LeO (transposallaw06_ChartTree.f k a0) (transposallaw06_ChartTree.f (k + 1) a0) := by
 intro a0 k
 obtain ⟨ih0, ih1, ih2, ih3, ih4⟩ := transposallaw06_ChartTree.mono_l k
 unfold transposallaw06_ChartTree.f
 repeat' first
   | (with_reducible exact ih0 _ _ _ _)
   | (with_reducible exact ih1 _ _ _ _ _ _ _ _ _)
   | (with_reducible exact ih2 _ _ _ _ _ _ _ _ _ _ _)
   | (with_reducible exact ih3 _ _ _ _ _ _ _ _ _ _ _ _ _ _ _ _)
   | (with_reducible exact ih4 _ _ _ _ _ _ _ _ _ _ _ _)
   | (with_reducible exact chart_Chart_Within.mono _ _ _ _)
   | (with_reducible exact transposallaw06_Awake.mono _)
   | (with_reducible exact transposallaw06_Make.mono _ _)
   | (with_reducible exact LeO.refl _)
   | (with_reducible exact LeO.none _)
   | (with_reducible refine LeO.ite ?_ ?_)
   | (with_reducible refine LeO.bind ?_ (fun _ => ?_))
   | exact ih0 _ _ _ _
   | exact ih1 _ _ _ _ _ _ _ _ _
   | exact ih2 _ _ _ _ _ _ _ _ _ _ _
   | exact ih3 _ _ _ _ _ _ _ _ _ _ _ _ _ _ _ _
   | exact ih4 _ _ _ _ _ _ _ _ _ _ _ _
   | exact chart_Chart_Within.mono _ _ _ _
   | exact transposallaw06_Awake.mono _
   | exact transposallaw06_Make.mono _ _
   | exact LeO.none _
   | refine LeO.ite ?_ ?_
   | refine LeO.bind ?_ (fun _ => ?_)
def transposallaw06_ChartTree.T14 : Bool × List (List Nat × List Nat) := (true, [([], []), ([0], [0]), ([], []), ([2], [2]), ([1, 3], [1, 3]), ([4], [4]), ([5], [5]), ([5], [5]), ([7, 5], [5, 7]), ([5], [5]), ([9, 5], [5, 9]), ([6, 8, 10, 5, 5], [5, 6, 8, 10]), ([5], [5]), ([12, 5], [5, 12]), ([13, 5], [5, 13]), ([14, 11, 5], [5, 14]), ([15], [15]), ([15], [15]), ([17, 15], [15, 17]), ([15], [15]), ([19, 15], [15, 19]), ([16, 18, 20, 15, 15], [15, 16, 18, 20]), ([15, 21, 5], [5, 15, 21]), ([11, 22, 5], [5, 11, 22]), ([5, 23], [5, 23])])
def transposallaw06_ChartTree.B14 : List Nat := [0, 1, 0, 4, 15, 31, 63, 63, 191, 63, 575, 2047, 63, 4159, 12351, 32767, 65535, 65535, 196607, 65535, 589823, 2097151, 4194303, 8388607, 16777215]
theorem transposallaw06_ChartTree.tab14 : rtab .any (opsOf Tryz.f3 14) = transposallaw06_ChartTree.T14 := by kernel_rfl
theorem transposallaw06_ChartTree.bits14 : waitsOk transposallaw06_ChartTree.T14.2 transposallaw06_ChartTree.B14 = true := by kernel_rfl
set_option maxHeartbeats 8000000 in
set_option maxRecDepth 100000 in
theorem transposallaw06_ChartTree.calls (k : Nat) (A0 : Option Addr) (c0 : Nat) (l0 : List (S59)) (r : Bool) (w : World) (hr0 : Kd.C k59 w A0 l0.length l0) (hc0 : l0.length ≤ c0) (hG : Glob w) (h : transposallaw06_ChartTree.f k l0 = some r) :
  Calls Tryz.prog 3 #[.slice A0 l0.length c0] w fun e w' => e = .returned (.bool r) ∧ Below w.heap.size w w' := by
 have hu30 := Tryz.underlying30
 have HG := Aside0.mk hG
 clear hG
 have HR0 := Aside0.mk hr0
 have HC0 := Aside0.mk hc0
 clear hr0 hc0
 have HB := Aside0.mk (Below.refl w.heap.size w)
 have H : ((transposallaw06_Awake.f k).bind fun t281 => (if t281 = true then ((transposallaw06_Make.f k l0).bind fun t282 => (transposallaw06_ChartTree.l0 k t282 t282 (t282.length : Int) 0)) else (some false))) = some r := h
 clear h
 replace H := Option.bind_eq_some_iff.mp H
 obtain ⟨t281, A20, H⟩ := H
 replace H : (if t281 = true then ((transposallaw06_Make.f k l0).bind fun t282 => (transposallaw06_ChartTree.l0 k t282 t282 (t282.length : Int) 0)) else (some false)) = some r := H
 have A2 := Aside0.mk A20
 clear A20
 by_cases c3 : t281 = true
 ·subst c3
  have H1 : ((transposallaw06_Make.f k l0).bind fun t282 => (transposallaw06_ChartTree.l0 k t282 t282 (t282.length : Int) 0)) = some r := by rw [if_pos rfl] at H; exact H
  clear H
  have H := H1
  clear H1
  replace H := Option.bind_eq_some_iff.mp H
  obtain ⟨t282, A40, H⟩ := H
  replace H : (transposallaw06_ChartTree.l0 k t282 t282 (t282.length : Int) 0) = some r := H
  have A4 := Aside0.mk A40
  clear A40
  have H' := Aside0.mk H
  clear H
  go_enter Tryz.func3, Tryz.ntmps3
  go_wp2_with (first | ((with_reducible refine gate_callee (f := 10) rfl ?_); refine goesL_ (some 8) rfl rfl Tryz.func10 (by kernel_rfl) rfl #[] rfl (by (try simp only [List.map_toArray, List.map_cons, List.map_nil]); first | done | rfl | (simp only [List.length_drop, List.length_take]; rfl)) ?_; (with_reducible refine (transposallaw06_Awake.calls k  true _ ?side1 A2.out).mono ?_); (case side1 => exact Glob.below (by repeat (first | (with_reducible first | exact HB.out | apply below_alloc | apply pw_below_drewN | apply below_drew1) | exact HB.out)) HG.out); rintro e w5 ⟨rfl, hb⟩; refine ⟨_, rfl, ?_⟩; have n0_ := Aside0.mk (below_step (by repeat (first | (with_reducible first | exact HB.out | apply below_alloc | apply pw_below_drewN | apply below_drew1) | exact HB.out)) hb); clear HB; have HB := n0_; clear n0_; (try clear hb); (try clear hb2); (try clear hk); (try clear hi)) | ((with_reducible refine gate_callee (f := 11) rfl ?_); refine goesL_ (some 11) rfl rfl Tryz.func11 (by kernel_rfl) rfl #[.slice A0 l0.length c0] rfl (by (try simp only [List.map_toArray, List.map_cons, List.map_nil]); first | done | rfl | (simp only [List.length_drop, List.length_take]; rfl)) ?_; (with_reducible refine (transposallaw06_Make.calls k _ _ l0 t282 _ ?side1 ?side2 A4.out).mono ?_); (case side1 => repeat (first | exact (Kd.C_below HR0.out HB.out) | (with_reducible refine Kd.C_alloc ?_ _) | (with_reducible refine Kd.C_drewN ?_ _) | (with_reducible refine Kd.C_drew ?_))); (case side2 => exact HC0.out); rintro e w6 ⟨v283, rfl, ho0, hb⟩; refine ⟨_, rfl, ?_⟩; have n0_ := Aside0.mk (Kd.R_lower ho0 (below_size (by repeat (first | (with_reducible first | exact HB.out | apply below_alloc | apply pw_below_drewN | apply below_drew1) | exact HB.out)))); have n1_ := Aside0.mk (below_step (by repeat (first | (with_reducible first | exact HB.out | apply below_alloc | apply pw_below_drewN | apply below_drew1) | exact HB.out)) hb); clear HB; have HO284 := n0_; have HB := n1_; clear n0_ n1_; (try clear hb); (try clear hb2); (try clear hk); (try clear hi); (try clear ho0); obtain ⟨Ao7, co7, eo7⟩ := Kd.R_slice HO284.out; subst eo7))
  go_loopg [14] k (fun kq v14 w' => ∃ (x14_1 : Int), v14 = .int .i64 x14_1 ∧ Aside0 (transposallaw06_ChartTree.l0 kq t282 t282 (t282.length : Int) x14_1 = some r) ∧ Aside0 (kq ≤ k) ∧ Aside0 (Kd.R k30 30 w' w.heap.size (fun _ => True) (.slice Ao7 t282.length co7) t282) ∧ Aside0 (Kd.R k30 30 w' w.heap.size (fun _ => True) (.slice Ao7 t282.length co7) t282) ∧ Aside0 (Below w.heap.size w w'))
  case atStart => exact ⟨(0), (by first | rfl | (simp; done) | (simp [*]; done)), H', ⟨Nat.le_refl _⟩, ⟨by (with_reducible repeat (first | apply Kd.R_alloc | apply Kd.R_drewN | apply Kd.R_drew)); exact HO284.out⟩, ⟨by (with_reducible repeat (first | apply Kd.R_alloc | apply Kd.R_drewN | apply Kd.R_drew)); exact HO284.out⟩, ⟨by repeat (first | (with_reducible first | exact HB.out | apply below_alloc | apply pw_below_drewN | apply below_drew1) | exact HB.out)⟩⟩
  case round =>
   clear H'
   try clear c1
   try clear p2
   try clear c3
   obtain ⟨x14_1, rfl, HA, HK1, HO_3, HO_12, HB⟩ := hrel
   cases gk with
   | zero => exact absurd HA.out (by simp [transposallaw06_ChartTree.l0])
   | succ k1 =>
    have H := HA.out
    clear HA
    simp only [transposallaw06_ChartTree.l0] at H
    by_cases c8 : x14_1 < (t282.length : Int)
    ·rw [if_pos c8] at H
     have c8b0 : decide (x14_1 < (t282.length : Int)) = true := decide_eq_true c8
     clear c8
     by_cases c9 : 0 ≤ x14_1
     ·rw [if_pos c9] at H
      have c9b0 : decide (0 ≤ x14_1) = true := decide_eq_true c9
      clear c9
      by_cases c10 : x14_1 < (t282.length : Int)
      ·rw [if_pos c10] at H
       have c10b0 : decide (x14_1 < (t282.length : Int)) = true := decide_eq_true c10
       clear c10
       have HC11 := Aside0.mk H
       clear H
       have p285 : 0 ≤ (x14_1 : Int) := of_decide_eq_true (by first | (with_reducible assumption) | assumption)
       have q285 : x14_1 < (t282.length : Int) := of_decide_eq_true (by first | (with_reducible assumption) | assumption)
       obtain ⟨ad285, e285, hx285_0, hx285_1, hx285_2, hx285_3⟩ := at_T30 (Kd.R_reads' HO_12.out).2.2 x14_1 p285 q285
       cases e285
       replace p285 := eq_true p285
       replace q285 := eq_true q285
       go_upto_region 7 with (first | ((with_reducible refine gate_dst (N := 5) rfl ?_); refine box_event ?hg (N := 5) ?hd (cs := #[.int .u32 0, .string (⟨#[]⟩ : ByteArray), .int .u8 0, .int .u32 0]) (t := 30) ?hr ?_; (case hd => rfl); (case hg => rfl); (case hr => first | (go_simp; done) | (go_simp; rfl)); intro gb286 hg w12 hbox hb; have n0_ := Aside0.mk (Kd.R_below (Kd.R_elderB (by (with_reducible repeat (first | apply Kd.R_alloc | apply Kd.R_drewN | apply Kd.R_drew)); exact HO_3.out) gb286 (Nat.le_of_eq hg.symm)) hb); have n1_ := Aside0.mk (Kd.R_below (Kd.R_elderB (by (with_reducible repeat (first | apply Kd.R_alloc | apply Kd.R_drewN | apply Kd.R_drew)); exact HO_12.out) gb286 (Nat.le_of_eq hg.symm)) hb); have n2_ := Aside0.mk (below_step (by repeat (first | (with_reducible first | exact HB.out | apply below_alloc | apply pw_below_drewN | apply below_drew1) | exact HB.out)) hb); have n3_ := Aside0.mk (hbox); have n4_ := Aside0.mk ((by rw [hg]; exact (below_size (by repeat (first | (with_reducible first | exact HB.out | apply below_alloc | apply pw_below_drewN | apply below_drew1) | exact HB.out))) : w.heap.size ≤ gb286)); have n5_ := Aside0.mk ((by rw [hg]; exact (below_size (by repeat (first | (with_reducible first | exact HB.out | apply below_alloc | apply pw_below_drewN | apply below_drew1) | exact HB.out))) : w.heap.size ≤ gb286)); clear HO_3; clear HO_12; clear HB; have HO_3 := n0_; have HO_12 := n1_; have HB := n2_; have BK286 := n3_; have GW286 := n4_; have GE286 := n5_; clear n0_ n1_ n2_ n3_ n4_ n5_; clear hb hbox hg; have hcz13_0 : w12.cell? ⟨gb286, 0, none⟩ = some (.int .u32 0) := (blk_cell BK286.out 0).trans rfl; have hcz13_1 : w12.cell? ⟨gb286, 1, none⟩ = some (.string (⟨#[]⟩ : ByteArray)) := (blk_cell BK286.out 1).trans rfl; have hcz13_2 : w12.cell? ⟨gb286, 2, none⟩ = some (.int .u8 0) := (blk_cell BK286.out 2).trans rfl; have hcz13_3 : w12.cell? ⟨gb286, 3, none⟩ = some (.int .u32 0) := (blk_cell BK286.out 3).trans rfl; have hfz13_0 := blk_frozen BK286.out 0; have hfz13_1 := blk_frozen BK286.out 1; have hfz13_2 := blk_frozen BK286.out 2; have hfz13_3 := blk_frozen BK286.out 3))
       (try simp only [Act.put, List.setIfInBounds_toArray, List.set_cons_zero, List.set_cons_succ])
       go_cut [46] (fun v46 wc => ∃ (kq : Nat) (x46_10 : Bool), v46 = .bool x46_10 ∧ Aside0 (transposallaw06_ChartTree.j1 kq t282 t282 (t282.length : Int) x14_1 x46_10 ((rd_T30 t282 x14_1).f0) ((rd_T30 t282 x14_1).f1) ((rd_T30 t282 x14_1).f2) ((rd_T30 t282 x14_1).f3) = some r) ∧ Aside0 (kq ≤ k1) ∧ Aside0 (Kd.R k30 30 wc w.heap.size (fun k_ => k_ ≠ gb286) (.slice (some ad285) t282.length co7) t282) ∧ Aside0 (Kd.R k30 30 wc w.heap.size (fun k_ => k_ ≠ gb286) (.slice (some ad285) t282.length co7) t282) ∧ Aside0 (wc.heap[gb286]? = some (.cells #[.int .u32 ((rd_T30 t282 x14_1).f0), .string ((rd_T30 t282 x14_1).f1), .int .u8 ((rd_T30 t282 x14_1).f2), .int .u32 ((rd_T30 t282 x14_1).f3)] 30 (0, 0))) ∧ Aside0 (Below w.heap.size w wc))
       case first =>
        have H := HC11.out
        clear HC11
        replace H := Option.bind_eq_some_iff.mp H
        obtain ⟨t287, A140, H⟩ := H
        replace H : (if t287 = true then (if ((rd_T30 t282 x14_1).f3) = 0 then (transposallaw06_ChartTree.j1 k1 t282 t282 (t282.length : Int) x14_1 false ((rd_T30 t282 x14_1).f0) ((rd_T30 t282 x14_1).f1) ((rd_T30 t282 x14_1).f2) ((rd_T30 t282 x14_1).f3)) else ((chart_Chart_Within.f k1 t282 ((rd_T30 t282 x14_1).f0) ((rd_T30 t282 x14_1).f3)).bind fun t288 => (if t288 = true then ((chart_Chart_Within.f k1 t282 ((rd_T30 t282 x14_1).f3) ((rd_T30 t282 x14_1).f0)).bind fun t289 => (transposallaw06_ChartTree.j1 k1 t282 t282 (t282.length : Int) x14_1 t289 ((rd_T30 t282 x14_1).f0) ((rd_T30 t282 x14_1).f1) ((rd_T30 t282 x14_1).f2) ((rd_T30 t282 x14_1).f3))) else (transposallaw06_ChartTree.j1 k1 t282 t282 (t282.length : Int) x14_1 true ((rd_T30 t282 x14_1).f0) ((rd_T30 t282 x14_1).f1) ((rd_T30 t282 x14_1).f2) ((rd_T30 t282 x14_1).f3))))) else (transposallaw06_ChartTree.j1 k1 t282 t282 (t282.length : Int) x14_1 true ((rd_T30 t282 x14_1).f0) ((rd_T30 t282 x14_1).f1) ((rd_T30 t282 x14_1).f2) ((rd_T30 t282 x14_1).f3))) = some r := H
        have A14 := Aside0.mk A140
        clear A140
        by_cases c15 : t287 = true
        ·subst c15
         have H1 : (if ((rd_T30 t282 x14_1).f3) = 0 then (transposallaw06_ChartTree.j1 k1 t282 t282 (t282.length : Int) x14_1 false ((rd_T30 t282 x14_1).f0) ((rd_T30 t282 x14_1).f1) ((rd_T30 t282 x14_1).f2) ((rd_T30 t282 x14_1).f3)) else ((chart_Chart_Within.f k1 t282 ((rd_T30 t282 x14_1).f0) ((rd_T30 t282 x14_1).f3)).bind fun t288 => (if t288 = true then ((chart_Chart_Within.f k1 t282 ((rd_T30 t282 x14_1).f3) ((rd_T30 t282 x14_1).f0)).bind fun t289 => (transposallaw06_ChartTree.j1 k1 t282 t282 (t282.length : Int) x14_1 t289 ((rd_T30 t282 x14_1).f0) ((rd_T30 t282 x14_1).f1) ((rd_T30 t282 x14_1).f2) ((rd_T30 t282 x14_1).f3))) else (transposallaw06_ChartTree.j1 k1 t282 t282 (t282.length : Int) x14_1 true ((rd_T30 t282 x14_1).f0) ((rd_T30 t282 x14_1).f1) ((rd_T30 t282 x14_1).f2) ((rd_T30 t282 x14_1).f3))))) = some r := by rw [if_pos rfl] at H; exact H
         clear H
         have H := H1
         clear H1
         by_cases c16 : ((rd_T30 t282 x14_1).f3) = 0
         ·rw [if_pos c16] at H
          have c16b0 : (((rd_T30 t282 x14_1).f3) == 0) = true := beq_iff_eq.mpr c16
          have c16b1 : (((rd_T30 t282 x14_1).f3) != 0) = false := bne_eq_false_iff_eq.mpr c16
          clear c16
          (first | rw [c16b0] | (simp only [i64_w, i32_w]; rw [c16b0]) | skip)
          have H' := Aside0.mk H
          clear H
          have hcz17_0 : w12.cell? ⟨gb286, 0, none⟩ = some (.int .u32 0) := (blk_cell BK286.out 0).trans rfl
          have hcz17_1 : w12.cell? ⟨gb286, 1, none⟩ = some (.string (⟨#[]⟩ : ByteArray)) := (blk_cell BK286.out 1).trans rfl
          have hcz17_2 : w12.cell? ⟨gb286, 2, none⟩ = some (.int .u8 0) := (blk_cell BK286.out 2).trans rfl
          have hcz17_3 : w12.cell? ⟨gb286, 3, none⟩ = some (.int .u32 0) := (blk_cell BK286.out 3).trans rfl
          have hfz17_0 := blk_frozen BK286.out 0
          have hfz17_1 := blk_frozen BK286.out 1
          have hfz17_2 := blk_frozen BK286.out 2
          have hfz17_3 := blk_frozen BK286.out 3
          go_wp2_with (first | ((with_reducible refine gate_callee (f := 12) rfl ?_); refine goesL_ (some 23) rfl rfl Tryz.func12 (by kernel_rfl) rfl #[.slice (some ad285) t282.length co7, .int .u32 ((rd_T30 t282 x14_1).f0), .int .u32 ((rd_T30 t282 x14_1).f0)] rfl (by (try simp only [List.map_toArray, List.map_cons, List.map_nil]); first | done | rfl | (simp only [List.length_drop, List.length_take]; rfl)) ?_; (with_reducible refine (chart_Chart_Within.calls k1 _ _ t282 ((rd_T30 t282 x14_1).f0) ((rd_T30 t282 x14_1).f0) true _ ?side1 ?side2 A14.out).mono ?_); (case side1 => refine (Kd.R_reads' (e := 30) (base := w.heap.size) (ok := fun k_ => (True ∧ k_ ≠ gb286)) (n := t282.length) (c := co7) ?_).2.2; exact (by (with_reducible repeat (first | apply Kd.R_alloc | apply Kd.R_drewN | apply Kd.R_drew)); exact (Kd.R_mono (Kd.R_far (p := ⟨gb286, 3, none⟩) (Kd.R_far (p := ⟨gb286, 2, none⟩) (Kd.R_far (p := ⟨gb286, 1, none⟩) (Kd.R_far (p := ⟨gb286, 0, none⟩) (Kd.R_mono HO_3.out (fun k_ hk => (⟨hk, hk.2⟩ : _ ∧ k_ ≠ gb286))) (fun _ hk => hk.2) (.int .u32 ((rd_T30 t282 x14_1).f0))) (fun _ hk => hk.2) (.string ((rd_T30 t282 x14_1).f1))) (fun _ hk => hk.2) (.int .u8 ((rd_T30 t282 x14_1).f2))) (fun _ hk => hk.2) (.int .u32 ((rd_T30 t282 x14_1).f3))) (fun _ h_ => h_.1)))); (case side2 => exact (Kd.R_reads' HO_3.out).2.1); rintro e w18 ⟨rfl, hb⟩; refine ⟨_, rfl, ?_⟩; have n0_ := Aside0.mk (Kd.R_below (by (with_reducible repeat (first | apply Kd.R_alloc | apply Kd.R_drewN | apply Kd.R_drew)); exact (Kd.R_mono (Kd.R_far (p := ⟨gb286, 3, none⟩) (Kd.R_far (p := ⟨gb286, 2, none⟩) (Kd.R_far (p := ⟨gb286, 1, none⟩) (Kd.R_far (p := ⟨gb286, 0, none⟩) (Kd.R_mono HO_3.out (fun k_ hk => (⟨hk, hk.2⟩ : _ ∧ k_ ≠ gb286))) (fun _ hk => hk.2) (.int .u32 ((rd_T30 t282 x14_1).f0))) (fun _ hk => hk.2) (.string ((rd_T30 t282 x14_1).f1))) (fun _ hk => hk.2) (.int .u8 ((rd_T30 t282 x14_1).f2))) (fun _ hk => hk.2) (.int .u32 ((rd_T30 t282 x14_1).f3))) (fun _ h_ => h_.1))) hb); have n1_ := Aside0.mk (Kd.R_below (by (with_reducible repeat (first | apply Kd.R_alloc | apply Kd.R_drewN | apply Kd.R_drew)); exact (Kd.R_mono (Kd.R_far (p := ⟨gb286, 3, none⟩) (Kd.R_far (p := ⟨gb286, 2, none⟩) (Kd.R_far (p := ⟨gb286, 1, none⟩) (Kd.R_far (p := ⟨gb286, 0, none⟩) (Kd.R_mono HO_12.out (fun k_ hk => (⟨hk, hk.2⟩ : _ ∧ k_ ≠ gb286))) (fun _ hk => hk.2) (.int .u32 ((rd_T30 t282 x14_1).f0))) (fun _ hk => hk.2) (.string ((rd_T30 t282 x14_1).f1))) (fun _ hk => hk.2) (.int .u8 ((rd_T30 t282 x14_1).f2))) (fun _ hk => hk.2) (.int .u32 ((rd_T30 t282 x14_1).f3))) (fun _ h_ => h_.1))) hb); have n2_ := Aside0.mk (blk_below (g := gb286) (o := .cells #[.int .u32 ((rd_T30 t282 x14_1).f0), .string ((rd_T30 t282 x14_1).f1), .int .u8 ((rd_T30 t282 x14_1).f2), .int .u32 ((rd_T30 t282 x14_1).f3)] 30 (0, 0)) (by (with_reducible repeat (first | refine blk_drewN ?_ _ | refine blk_drew ?_ | refine blk_alloc ?_ _)); refine blk_put (cs := #[.int .u32 ((rd_T30 t282 x14_1).f0), .string ((rd_T30 t282 x14_1).f1), .int .u8 ((rd_T30 t282 x14_1).f2), .int .u32 0]) ?_ 3 _ rfl; (with_reducible repeat (first | refine blk_drewN ?_ _ | refine blk_drew ?_ | refine blk_alloc ?_ _)); refine blk_put (cs := #[.int .u32 ((rd_T30 t282 x14_1).f0), .string ((rd_T30 t282 x14_1).f1), .int .u8 0, .int .u32 0]) ?_ 2 _ rfl; (with_reducible repeat (first | refine blk_drewN ?_ _ | refine blk_drew ?_ | refine blk_alloc ?_ _)); refine blk_put (cs := #[.int .u32 ((rd_T30 t282 x14_1).f0), .string (⟨#[]⟩ : ByteArray), .int .u8 0, .int .u32 0]) ?_ 1 _ rfl; (with_reducible repeat (first | refine blk_drewN ?_ _ | refine blk_drew ?_ | refine blk_alloc ?_ _)); refine blk_put (cs := #[.int .u32 0, .string (⟨#[]⟩ : ByteArray), .int .u8 0, .int .u32 0]) ?_ 0 _ rfl; (with_reducible repeat (first | refine blk_drewN ?_ _ | refine blk_drew ?_ | refine blk_alloc ?_ _)); exact BK286.out) hb); have n3_ := Aside0.mk (below_step (by repeat (first | (with_reducible first | exact HB.out | apply below_alloc | apply pw_below_drewN | apply below_drew1 | refine below_set ?_ GE286.out) | exact HB.out)) hb); clear HO_3; clear HO_12; clear BK286; clear HB; have HO_3 := n0_; have HO_12 := n1_; have BK286 := n2_; have HB := n3_; clear n0_ n1_ n2_ n3_; (try clear hb); (try clear hb2); (try clear hk); (try clear hi); have hcz19_0 : w18.cell? ⟨gb286, 0, none⟩ = some (.int .u32 ((rd_T30 t282 x14_1).f0)) := (blk_cell BK286.out 0).trans rfl; have hcz19_1 : w18.cell? ⟨gb286, 1, none⟩ = some (.string ((rd_T30 t282 x14_1).f1)) := (blk_cell BK286.out 1).trans rfl; have hcz19_2 : w18.cell? ⟨gb286, 2, none⟩ = some (.int .u8 ((rd_T30 t282 x14_1).f2)) := (blk_cell BK286.out 2).trans rfl; have hcz19_3 : w18.cell? ⟨gb286, 3, none⟩ = some (.int .u32 ((rd_T30 t282 x14_1).f3)) := (blk_cell BK286.out 3).trans rfl; have hfz19_0 := blk_frozen BK286.out 0; have hfz19_1 := blk_frozen BK286.out 1; have hfz19_2 := blk_frozen BK286.out 2; have hfz19_3 := blk_frozen BK286.out 3))
          go_meet
          case rel => exact ⟨_, (false), (by first | rfl | (simp; done) | (simp [*]; done)), H', ⟨by have := HK1.out; first | omega | exact Nat.le_refl _⟩, ⟨by (with_reducible repeat (first | apply Kd.R_alloc | apply Kd.R_drewN | apply Kd.R_drew)); exact Kd.R_mono HO_3.out (fun _ hk => hk.2)⟩, ⟨by (with_reducible repeat (first | apply Kd.R_alloc | apply Kd.R_drewN | apply Kd.R_drew)); exact Kd.R_mono HO_12.out (fun _ hk => hk.2)⟩, ⟨by (with_reducible repeat (first | refine blk_drewN ?_ _ | refine blk_drew ?_ | refine blk_alloc ?_ _)); exact BK286.out⟩, ⟨by repeat (first | (with_reducible first | exact HB.out | apply below_alloc | apply pw_below_drewN | apply below_drew1 | refine below_set ?_ GE286.out) | exact HB.out)⟩⟩
         ·rw [if_neg c16] at H
          have c16b0 : (((rd_T30 t282 x14_1).f3) == 0) = false := beq_eq_false_iff_ne.mpr c16
          have c16b1 : (((rd_T30 t282 x14_1).f3) != 0) = true := bne_iff_ne.mpr c16
          (first | rw [c16b0] | (simp only [i64_w, i32_w]; rw [c16b0]) | skip)
          replace H := Option.bind_eq_some_iff.mp H
          obtain ⟨t288, A200, H⟩ := H
          replace H : (if t288 = true then ((chart_Chart_Within.f k1 t282 ((rd_T30 t282 x14_1).f3) ((rd_T30 t282 x14_1).f0)).bind fun t289 => (transposallaw06_ChartTree.j1 k1 t282 t282 (t282.length : Int) x14_1 t289 ((rd_T30 t282 x14_1).f0) ((rd_T30 t282 x14_1).f1) ((rd_T30 t282 x14_1).f2) ((rd_T30 t282 x14_1).f3))) else (transposallaw06_ChartTree.j1 k1 t282 t282 (t282.length : Int) x14_1 true ((rd_T30 t282 x14_1).f0) ((rd_T30 t282 x14_1).f1) ((rd_T30 t282 x14_1).f2) ((rd_T30 t282 x14_1).f3))) = some r := H
          have A20 := Aside0.mk A200
          clear A200
          by_cases c21 : t288 = true
          ·subst c21
           have H1 : ((chart_Chart_Within.f k1 t282 ((rd_T30 t282 x14_1).f3) ((rd_T30 t282 x14_1).f0)).bind fun t289 => (transposallaw06_ChartTree.j1 k1 t282 t282 (t282.length : Int) x14_1 t289 ((rd_T30 t282 x14_1).f0) ((rd_T30 t282 x14_1).f1) ((rd_T30 t282 x14_1).f2) ((rd_T30 t282 x14_1).f3))) = some r := by rw [if_pos rfl] at H; exact H
           clear H
           have H := H1
           clear H1
           replace H := Option.bind_eq_some_iff.mp H
           obtain ⟨t289, A220, H⟩ := H
           replace H : (transposallaw06_ChartTree.j1 k1 t282 t282 (t282.length : Int) x14_1 t289 ((rd_T30 t282 x14_1).f0) ((rd_T30 t282 x14_1).f1) ((rd_T30 t282 x14_1).f2) ((rd_T30 t282 x14_1).f3)) = some r := H
           have A22 := Aside0.mk A220
           clear A220
           have H' := Aside0.mk H
           clear H
           have hcz23_0 : w12.cell? ⟨gb286, 0, none⟩ = some (.int .u32 0) := (blk_cell BK286.out 0).trans rfl
           have hcz23_1 : w12.cell? ⟨gb286, 1, none⟩ = some (.string (⟨#[]⟩ : ByteArray)) := (blk_cell BK286.out 1).trans rfl
           have hcz23_2 : w12.cell? ⟨gb286, 2, none⟩ = some (.int .u8 0) := (blk_cell BK286.out 2).trans rfl
           have hcz23_3 : w12.cell? ⟨gb286, 3, none⟩ = some (.int .u32 0) := (blk_cell BK286.out 3).trans rfl
           have hfz23_0 := blk_frozen BK286.out 0
           have hfz23_1 := blk_frozen BK286.out 1
           have hfz23_2 := blk_frozen BK286.out 2
           have hfz23_3 := blk_frozen BK286.out 3
           go_wp2_with (first | ((with_reducible refine gate_callee (f := 12) rfl ?_); refine goesL_ (some 23) rfl rfl Tryz.func12 (by kernel_rfl) rfl #[.slice (some ad285) t282.length co7, .int .u32 ((rd_T30 t282 x14_1).f0), .int .u32 ((rd_T30 t282 x14_1).f0)] rfl (by (try simp only [List.map_toArray, List.map_cons, List.map_nil]); first | done | rfl | (simp only [List.length_drop, List.length_take]; rfl)) ?_; (with_reducible refine (chart_Chart_Within.calls k1 _ _ t282 ((rd_T30 t282 x14_1).f0) ((rd_T30 t282 x14_1).f0) true _ ?side1 ?side2 A14.out).mono ?_); (case side1 => refine (Kd.R_reads' (e := 30) (base := w.heap.size) (ok := fun k_ => (True ∧ k_ ≠ gb286)) (n := t282.length) (c := co7) ?_).2.2; exact (by (with_reducible repeat (first | apply Kd.R_alloc | apply Kd.R_drewN | apply Kd.R_drew)); exact (Kd.R_mono (Kd.R_far (p := ⟨gb286, 3, none⟩) (Kd.R_far (p := ⟨gb286, 2, none⟩) (Kd.R_far (p := ⟨gb286, 1, none⟩) (Kd.R_far (p := ⟨gb286, 0, none⟩) (Kd.R_mono HO_3.out (fun k_ hk => (⟨hk, hk.2⟩ : _ ∧ k_ ≠ gb286))) (fun _ hk => hk.2) (.int .u32 ((rd_T30 t282 x14_1).f0))) (fun _ hk => hk.2) (.string ((rd_T30 t282 x14_1).f1))) (fun _ hk => hk.2) (.int .u8 ((rd_T30 t282 x14_1).f2))) (fun _ hk => hk.2) (.int .u32 ((rd_T30 t282 x14_1).f3))) (fun _ h_ => h_.1)))); (case side2 => exact (Kd.R_reads' HO_3.out).2.1); rintro e w24 ⟨rfl, hb⟩; refine ⟨_, rfl, ?_⟩; have n0_ := Aside0.mk (Kd.R_below (by (with_reducible repeat (first | apply Kd.R_alloc | apply Kd.R_drewN | apply Kd.R_drew)); exact (Kd.R_mono (Kd.R_far (p := ⟨gb286, 3, none⟩) (Kd.R_far (p := ⟨gb286, 2, none⟩) (Kd.R_far (p := ⟨gb286, 1, none⟩) (Kd.R_far (p := ⟨gb286, 0, none⟩) (Kd.R_mono HO_3.out (fun k_ hk => (⟨hk, hk.2⟩ : _ ∧ k_ ≠ gb286))) (fun _ hk => hk.2) (.int .u32 ((rd_T30 t282 x14_1).f0))) (fun _ hk => hk.2) (.string ((rd_T30 t282 x14_1).f1))) (fun _ hk => hk.2) (.int .u8 ((rd_T30 t282 x14_1).f2))) (fun _ hk => hk.2) (.int .u32 ((rd_T30 t282 x14_1).f3))) (fun _ h_ => h_.1))) hb); have n1_ := Aside0.mk (Kd.R_below (by (with_reducible repeat (first | apply Kd.R_alloc | apply Kd.R_drewN | apply Kd.R_drew)); exact (Kd.R_mono (Kd.R_far (p := ⟨gb286, 3, none⟩) (Kd.R_far (p := ⟨gb286, 2, none⟩) (Kd.R_far (p := ⟨gb286, 1, none⟩) (Kd.R_far (p := ⟨gb286, 0, none⟩) (Kd.R_mono HO_12.out (fun k_ hk => (⟨hk, hk.2⟩ : _ ∧ k_ ≠ gb286))) (fun _ hk => hk.2) (.int .u32 ((rd_T30 t282 x14_1).f0))) (fun _ hk => hk.2) (.string ((rd_T30 t282 x14_1).f1))) (fun _ hk => hk.2) (.int .u8 ((rd_T30 t282 x14_1).f2))) (fun _ hk => hk.2) (.int .u32 ((rd_T30 t282 x14_1).f3))) (fun _ h_ => h_.1))) hb); have n2_ := Aside0.mk (blk_below (g := gb286) (o := .cells #[.int .u32 ((rd_T30 t282 x14_1).f0), .string ((rd_T30 t282 x14_1).f1), .int .u8 ((rd_T30 t282 x14_1).f2), .int .u32 ((rd_T30 t282 x14_1).f3)] 30 (0, 0)) (by (with_reducible repeat (first | refine blk_drewN ?_ _ | refine blk_drew ?_ | refine blk_alloc ?_ _)); refine blk_put (cs := #[.int .u32 ((rd_T30 t282 x14_1).f0), .string ((rd_T30 t282 x14_1).f1), .int .u8 ((rd_T30 t282 x14_1).f2), .int .u32 0]) ?_ 3 _ rfl; (with_reducible repeat (first | refine blk_drewN ?_ _ | refine blk_drew ?_ | refine blk_alloc ?_ _)); refine blk_put (cs := #[.int .u32 ((rd_T30 t282 x14_1).f0), .string ((rd_T30 t282 x14_1).f1), .int .u8 0, .int .u32 0]) ?_ 2 _ rfl; (with_reducible repeat (first | refine blk_drewN ?_ _ | refine blk_drew ?_ | refine blk_alloc ?_ _)); refine blk_put (cs := #[.int .u32 ((rd_T30 t282 x14_1).f0), .string (⟨#[]⟩ : ByteArray), .int .u8 0, .int .u32 0]) ?_ 1 _ rfl; (with_reducible repeat (first | refine blk_drewN ?_ _ | refine blk_drew ?_ | refine blk_alloc ?_ _)); refine blk_put (cs := #[.int .u32 0, .string (⟨#[]⟩ : ByteArray), .int .u8 0, .int .u32 0]) ?_ 0 _ rfl; (with_reducible repeat (first | refine blk_drewN ?_ _ | refine blk_drew ?_ | refine blk_alloc ?_ _)); exact BK286.out) hb); have n3_ := Aside0.mk (below_step (by repeat (first | (with_reducible first | exact HB.out | apply below_alloc | apply pw_below_drewN | apply below_drew1 | refine below_set ?_ GE286.out) | exact HB.out)) hb); clear HO_3; clear HO_12; clear BK286; clear HB; have HO_3 := n0_; have HO_12 := n1_; have BK286 := n2_; have HB := n3_; clear n0_ n1_ n2_ n3_; (try clear hb); (try clear hb2); (try clear hk); (try clear hi); have hcz25_0 : w24.cell? ⟨gb286, 0, none⟩ = some (.int .u32 ((rd_T30 t282 x14_1).f0)) := (blk_cell BK286.out 0).trans rfl; have hcz25_1 : w24.cell? ⟨gb286, 1, none⟩ = some (.string ((rd_T30 t282 x14_1).f1)) := (blk_cell BK286.out 1).trans rfl; have hcz25_2 : w24.cell? ⟨gb286, 2, none⟩ = some (.int .u8 ((rd_T30 t282 x14_1).f2)) := (blk_cell BK286.out 2).trans rfl; have hcz25_3 : w24.cell? ⟨gb286, 3, none⟩ = some (.int .u32 ((rd_T30 t282 x14_1).f3)) := (blk_cell BK286.out 3).trans rfl; have hfz25_0 := blk_frozen BK286.out 0; have hfz25_1 := blk_frozen BK286.out 1; have hfz25_2 := blk_frozen BK286.out 2; have hfz25_3 := blk_frozen BK286.out 3) | (go_at_call 12; (with_reducible refine (chart_Chart_Within.calls k1 _ _ t282 ((rd_T30 t282 x14_1).f0) ((rd_T30 t282 x14_1).f3) true _ ?side1 ?side2 A20.out).mono ?_); (case side1 => repeat (first | exact (Kd.R_reads' HO_3.out).2.2 | (with_reducible refine Kd.C_alloc ?_ _) | (with_reducible refine Kd.C_drewN ?_ _) | (with_reducible refine Kd.C_drew ?_))); (case side2 => exact (Kd.R_reads' HO_3.out).2.1); rintro e w26 ⟨rfl, hb⟩; have n0_ := Aside0.mk (Kd.R_below (by (with_reducible repeat (first | apply Kd.R_alloc | apply Kd.R_drewN | apply Kd.R_drew)); exact HO_3.out) hb); have n1_ := Aside0.mk (Kd.R_below (by (with_reducible repeat (first | apply Kd.R_alloc | apply Kd.R_drewN | apply Kd.R_drew)); exact HO_12.out) hb); have n2_ := Aside0.mk (blk_below (g := gb286) (o := .cells #[.int .u32 ((rd_T30 t282 x14_1).f0), .string ((rd_T30 t282 x14_1).f1), .int .u8 ((rd_T30 t282 x14_1).f2), .int .u32 ((rd_T30 t282 x14_1).f3)] 30 (0, 0)) (by (with_reducible repeat (first | refine blk_drewN ?_ _ | refine blk_drew ?_ | refine blk_alloc ?_ _)); exact BK286.out) hb); have n3_ := Aside0.mk (below_step (by repeat (first | (with_reducible first | exact HB.out | apply below_alloc | apply pw_below_drewN | apply below_drew1 | refine below_set ?_ GE286.out) | exact HB.out)) hb); clear HO_3; clear HO_12; clear BK286; clear HB; have HO_3 := n0_; have HO_12 := n1_; have BK286 := n2_; have HB := n3_; clear n0_ n1_ n2_ n3_; (try clear hb); (try clear hb2); (try clear hk); (try clear hi); have hcz27_0 : w26.cell? ⟨gb286, 0, none⟩ = some (.int .u32 ((rd_T30 t282 x14_1).f0)) := (blk_cell BK286.out 0).trans rfl; have hcz27_1 : w26.cell? ⟨gb286, 1, none⟩ = some (.string ((rd_T30 t282 x14_1).f1)) := (blk_cell BK286.out 1).trans rfl; have hcz27_2 : w26.cell? ⟨gb286, 2, none⟩ = some (.int .u8 ((rd_T30 t282 x14_1).f2)) := (blk_cell BK286.out 2).trans rfl; have hcz27_3 : w26.cell? ⟨gb286, 3, none⟩ = some (.int .u32 ((rd_T30 t282 x14_1).f3)) := (blk_cell BK286.out 3).trans rfl; have hfz27_0 := blk_frozen BK286.out 0; have hfz27_1 := blk_frozen BK286.out 1; have hfz27_2 := blk_frozen BK286.out 2; have hfz27_3 := blk_frozen BK286.out 3) | (go_at_call 12; (with_reducible refine (chart_Chart_Within.calls k1 _ _ t282 ((rd_T30 t282 x14_1).f3) ((rd_T30 t282 x14_1).f0) t289 _ ?side1 ?side2 A22.out).mono ?_); (case side1 => repeat (first | exact (Kd.R_reads' HO_3.out).2.2 | (with_reducible refine Kd.C_alloc ?_ _) | (with_reducible refine Kd.C_drewN ?_ _) | (with_reducible refine Kd.C_drew ?_))); (case side2 => exact (Kd.R_reads' HO_3.out).2.1); rintro e w28 ⟨rfl, hb⟩; have n0_ := Aside0.mk (Kd.R_below (by (with_reducible repeat (first | apply Kd.R_alloc | apply Kd.R_drewN | apply Kd.R_drew)); exact HO_3.out) hb); have n1_ := Aside0.mk (Kd.R_below (by (with_reducible repeat (first | apply Kd.R_alloc | apply Kd.R_drewN | apply Kd.R_drew)); exact HO_12.out) hb); have n2_ := Aside0.mk (blk_below (g := gb286) (o := .cells #[.int .u32 ((rd_T30 t282 x14_1).f0), .string ((rd_T30 t282 x14_1).f1), .int .u8 ((rd_T30 t282 x14_1).f2), .int .u32 ((rd_T30 t282 x14_1).f3)] 30 (0, 0)) (by (with_reducible repeat (first | refine blk_drewN ?_ _ | refine blk_drew ?_ | refine blk_alloc ?_ _)); exact BK286.out) hb); have n3_ := Aside0.mk (below_step (by repeat (first | (with_reducible first | exact HB.out | apply below_alloc | apply pw_below_drewN | apply below_drew1 | refine below_set ?_ GE286.out) | exact HB.out)) hb); clear HO_3; clear HO_12; clear BK286; clear HB; have HO_3 := n0_; have HO_12 := n1_; have BK286 := n2_; have HB := n3_; clear n0_ n1_ n2_ n3_; (try clear hb); (try clear hb2); (try clear hk); (try clear hi)))
           go_meet
           case rel => exact ⟨_, (t289), (by first | rfl | (simp; done) | (simp [*]; done)), H', ⟨by have := HK1.out; first | omega | exact Nat.le_refl _⟩, ⟨by (with_reducible repeat (first | apply Kd.R_alloc | apply Kd.R_drewN | apply Kd.R_drew)); exact Kd.R_mono HO_3.out (fun _ hk => hk.2)⟩, ⟨by (with_reducible repeat (first | apply Kd.R_alloc | apply Kd.R_drewN | apply Kd.R_drew)); exact Kd.R_mono HO_12.out (fun _ hk => hk.2)⟩, ⟨by (with_reducible repeat (first | refine blk_drewN ?_ _ | refine blk_drew ?_ | refine blk_alloc ?_ _)); exact BK286.out⟩, ⟨by repeat (first | (with_reducible first | exact HB.out | apply below_alloc | apply pw_below_drewN | apply below_drew1 | refine below_set ?_ GE286.out) | exact HB.out)⟩⟩
          ·replace c21 := Bool.eq_false_iff.mpr c21
           subst c21
           have H1 : (transposallaw06_ChartTree.j1 k1 t282 t282 (t282.length : Int) x14_1 true ((rd_T30 t282 x14_1).f0) ((rd_T30 t282 x14_1).f1) ((rd_T30 t282 x14_1).f2) ((rd_T30 t282 x14_1).f3)) = some r := by rw [if_neg (show ¬ (false = true) by decide)] at H; exact H
           clear H
           have H := H1
           clear H1
           have H' := Aside0.mk H
           clear H
           have hcz29_0 : w12.cell? ⟨gb286, 0, none⟩ = some (.int .u32 0) := (blk_cell BK286.out 0).trans rfl
           have hcz29_1 : w12.cell? ⟨gb286, 1, none⟩ = some (.string (⟨#[]⟩ : ByteArray)) := (blk_cell BK286.out 1).trans rfl
           have hcz29_2 : w12.cell? ⟨gb286, 2, none⟩ = some (.int .u8 0) := (blk_cell BK286.out 2).trans rfl
           have hcz29_3 : w12.cell? ⟨gb286, 3, none⟩ = some (.int .u32 0) := (blk_cell BK286.out 3).trans rfl
           have hfz29_0 := blk_frozen BK286.out 0
           have hfz29_1 := blk_frozen BK286.out 1
           have hfz29_2 := blk_frozen BK286.out 2
           have hfz29_3 := blk_frozen BK286.out 3
           go_wp2_with (first | ((with_reducible refine gate_callee (f := 12) rfl ?_); refine goesL_ (some 23) rfl rfl Tryz.func12 (by kernel_rfl) rfl #[.slice (some ad285) t282.length co7, .int .u32 ((rd_T30 t282 x14_1).f0), .int .u32 ((rd_T30 t282 x14_1).f0)] rfl (by (try simp only [List.map_toArray, List.map_cons, List.map_nil]); first | done | rfl | (simp only [List.length_drop, List.length_take]; rfl)) ?_; (with_reducible refine (chart_Chart_Within.calls k1 _ _ t282 ((rd_T30 t282 x14_1).f0) ((rd_T30 t282 x14_1).f0) true _ ?side1 ?side2 A14.out).mono ?_); (case side1 => refine (Kd.R_reads' (e := 30) (base := w.heap.size) (ok := fun k_ => (True ∧ k_ ≠ gb286)) (n := t282.length) (c := co7) ?_).2.2; exact (by (with_reducible repeat (first | apply Kd.R_alloc | apply Kd.R_drewN | apply Kd.R_drew)); exact (Kd.R_mono (Kd.R_far (p := ⟨gb286, 3, none⟩) (Kd.R_far (p := ⟨gb286, 2, none⟩) (Kd.R_far (p := ⟨gb286, 1, none⟩) (Kd.R_far (p := ⟨gb286, 0, none⟩) (Kd.R_mono HO_3.out (fun k_ hk => (⟨hk, hk.2⟩ : _ ∧ k_ ≠ gb286))) (fun _ hk => hk.2) (.int .u32 ((rd_T30 t282 x14_1).f0))) (fun _ hk => hk.2) (.string ((rd_T30 t282 x14_1).f1))) (fun _ hk => hk.2) (.int .u8 ((rd_T30 t282 x14_1).f2))) (fun _ hk => hk.2) (.int .u32 ((rd_T30 t282 x14_1).f3))) (fun _ h_ => h_.1)))); (case side2 => exact (Kd.R_reads' HO_3.out).2.1); rintro e w30 ⟨rfl, hb⟩; refine ⟨_, rfl, ?_⟩; have n0_ := Aside0.mk (Kd.R_below (by (with_reducible repeat (first | apply Kd.R_alloc | apply Kd.R_drewN | apply Kd.R_drew)); exact (Kd.R_mono (Kd.R_far (p := ⟨gb286, 3, none⟩) (Kd.R_far (p := ⟨gb286, 2, none⟩) (Kd.R_far (p := ⟨gb286, 1, none⟩) (Kd.R_far (p := ⟨gb286, 0, none⟩) (Kd.R_mono HO_3.out (fun k_ hk => (⟨hk, hk.2⟩ : _ ∧ k_ ≠ gb286))) (fun _ hk => hk.2) (.int .u32 ((rd_T30 t282 x14_1).f0))) (fun _ hk => hk.2) (.string ((rd_T30 t282 x14_1).f1))) (fun _ hk => hk.2) (.int .u8 ((rd_T30 t282 x14_1).f2))) (fun _ hk => hk.2) (.int .u32 ((rd_T30 t282 x14_1).f3))) (fun _ h_ => h_.1))) hb); have n1_ := Aside0.mk (Kd.R_below (by (with_reducible repeat (first | apply Kd.R_alloc | apply Kd.R_drewN | apply Kd.R_drew)); exact (Kd.R_mono (Kd.R_far (p := ⟨gb286, 3, none⟩) (Kd.R_far (p := ⟨gb286, 2, none⟩) (Kd.R_far (p := ⟨gb286, 1, none⟩) (Kd.R_far (p := ⟨gb286, 0, none⟩) (Kd.R_mono HO_12.out (fun k_ hk => (⟨hk, hk.2⟩ : _ ∧ k_ ≠ gb286))) (fun _ hk => hk.2) (.int .u32 ((rd_T30 t282 x14_1).f0))) (fun _ hk => hk.2) (.string ((rd_T30 t282 x14_1).f1))) (fun _ hk => hk.2) (.int .u8 ((rd_T30 t282 x14_1).f2))) (fun _ hk => hk.2) (.int .u32 ((rd_T30 t282 x14_1).f3))) (fun _ h_ => h_.1))) hb); have n2_ := Aside0.mk (blk_below (g := gb286) (o := .cells #[.int .u32 ((rd_T30 t282 x14_1).f0), .string ((rd_T30 t282 x14_1).f1), .int .u8 ((rd_T30 t282 x14_1).f2), .int .u32 ((rd_T30 t282 x14_1).f3)] 30 (0, 0)) (by (with_reducible repeat (first | refine blk_drewN ?_ _ | refine blk_drew ?_ | refine blk_alloc ?_ _)); refine blk_put (cs := #[.int .u32 ((rd_T30 t282 x14_1).f0), .string ((rd_T30 t282 x14_1).f1), .int .u8 ((rd_T30 t282 x14_1).f2), .int .u32 0]) ?_ 3 _ rfl; (with_reducible repeat (first | refine blk_drewN ?_ _ | refine blk_drew ?_ | refine blk_alloc ?_ _)); refine blk_put (cs := #[.int .u32 ((rd_T30 t282 x14_1).f0), .string ((rd_T30 t282 x14_1).f1), .int .u8 0, .int .u32 0]) ?_ 2 _ rfl; (with_reducible repeat (first | refine blk_drewN ?_ _ | refine blk_drew ?_ | refine blk_alloc ?_ _)); refine blk_put (cs := #[.int .u32 ((rd_T30 t282 x14_1).f0), .string (⟨#[]⟩ : ByteArray), .int .u8 0, .int .u32 0]) ?_ 1 _ rfl; (with_reducible repeat (first | refine blk_drewN ?_ _ | refine blk_drew ?_ | refine blk_alloc ?_ _)); refine blk_put (cs := #[.int .u32 0, .string (⟨#[]⟩ : ByteArray), .int .u8 0, .int .u32 0]) ?_ 0 _ rfl; (with_reducible repeat (first | refine blk_drewN ?_ _ | refine blk_drew ?_ | refine blk_alloc ?_ _)); exact BK286.out) hb); have n3_ := Aside0.mk (below_step (by repeat (first | (with_reducible first | exact HB.out | apply below_alloc | apply pw_below_drewN | apply below_drew1 | refine below_set ?_ GE286.out) | exact HB.out)) hb); clear HO_3; clear HO_12; clear BK286; clear HB; have HO_3 := n0_; have HO_12 := n1_; have BK286 := n2_; have HB := n3_; clear n0_ n1_ n2_ n3_; (try clear hb); (try clear hb2); (try clear hk); (try clear hi); have hcz31_0 : w30.cell? ⟨gb286, 0, none⟩ = some (.int .u32 ((rd_T30 t282 x14_1).f0)) := (blk_cell BK286.out 0).trans rfl; have hcz31_1 : w30.cell? ⟨gb286, 1, none⟩ = some (.string ((rd_T30 t282 x14_1).f1)) := (blk_cell BK286.out 1).trans rfl; have hcz31_2 : w30.cell? ⟨gb286, 2, none⟩ = some (.int .u8 ((rd_T30 t282 x14_1).f2)) := (blk_cell BK286.out 2).trans rfl; have hcz31_3 : w30.cell? ⟨gb286, 3, none⟩ = some (.int .u32 ((rd_T30 t282 x14_1).f3)) := (blk_cell BK286.out 3).trans rfl; have hfz31_0 := blk_frozen BK286.out 0; have hfz31_1 := blk_frozen BK286.out 1; have hfz31_2 := blk_frozen BK286.out 2; have hfz31_3 := blk_frozen BK286.out 3) | (go_at_call 12; (with_reducible refine (chart_Chart_Within.calls k1 _ _ t282 ((rd_T30 t282 x14_1).f0) ((rd_T30 t282 x14_1).f3) false _ ?side1 ?side2 A20.out).mono ?_); (case side1 => repeat (first | exact (Kd.R_reads' HO_3.out).2.2 | (with_reducible refine Kd.C_alloc ?_ _) | (with_reducible refine Kd.C_drewN ?_ _) | (with_reducible refine Kd.C_drew ?_))); (case side2 => exact (Kd.R_reads' HO_3.out).2.1); rintro e w32 ⟨rfl, hb⟩; have n0_ := Aside0.mk (Kd.R_below (by (with_reducible repeat (first | apply Kd.R_alloc | apply Kd.R_drewN | apply Kd.R_drew)); exact HO_3.out) hb); have n1_ := Aside0.mk (Kd.R_below (by (with_reducible repeat (first | apply Kd.R_alloc | apply Kd.R_drewN | apply Kd.R_drew)); exact HO_12.out) hb); have n2_ := Aside0.mk (blk_below (g := gb286) (o := .cells #[.int .u32 ((rd_T30 t282 x14_1).f0), .string ((rd_T30 t282 x14_1).f1), .int .u8 ((rd_T30 t282 x14_1).f2), .int .u32 ((rd_T30 t282 x14_1).f3)] 30 (0, 0)) (by (with_reducible repeat (first | refine blk_drewN ?_ _ | refine blk_drew ?_ | refine blk_alloc ?_ _)); exact BK286.out) hb); have n3_ := Aside0.mk (below_step (by repeat (first | (with_reducible first | exact HB.out | apply below_alloc | apply pw_below_drewN | apply below_drew1 | refine below_set ?_ GE286.out) | exact HB.out)) hb); clear HO_3; clear HO_12; clear BK286; clear HB; have HO_3 := n0_; have HO_12 := n1_; have BK286 := n2_; have HB := n3_; clear n0_ n1_ n2_ n3_; (try clear hb); (try clear hb2); (try clear hk); (try clear hi)))
           go_meet
           case rel => exact ⟨_, (true), (by first | rfl | (simp; done) | (simp [*]; done)), H', ⟨by have := HK1.out; first | omega | exact Nat.le_refl _⟩, ⟨by (with_reducible repeat (first | apply Kd.R_alloc | apply Kd.R_drewN | apply Kd.R_drew)); exact Kd.R_mono HO_3.out (fun _ hk => hk.2)⟩, ⟨by (with_reducible repeat (first | apply Kd.R_alloc | apply Kd.R_drewN | apply Kd.R_drew)); exact Kd.R_mono HO_12.out (fun _ hk => hk.2)⟩, ⟨by (with_reducible repeat (first | refine blk_drewN ?_ _ | refine blk_drew ?_ | refine blk_alloc ?_ _)); exact BK286.out⟩, ⟨by repeat (first | (with_reducible first | exact HB.out | apply below_alloc | apply pw_below_drewN | apply below_drew1 | refine below_set ?_ GE286.out) | exact HB.out)⟩⟩
        ·replace c15 := Bool.eq_false_iff.mpr c15
         subst c15
         have H1 : (transposallaw06_ChartTree.j1 k1 t282 t282 (t282.length : Int) x14_1 true ((rd_T30 t282 x14_1).f0) ((rd_T30 t282 x14_1).f1) ((rd_T30 t282 x14_1).f2) ((rd_T30 t282 x14_1).f3)) = some r := by rw [if_neg (show ¬ (false = true) by decide)] at H; exact H
         clear H
         have H := H1
         clear H1
         have H' := Aside0.mk H
         clear H
         have hcz33_0 : w12.cell? ⟨gb286, 0, none⟩ = some (.int .u32 0) := (blk_cell BK286.out 0).trans rfl
         have hcz33_1 : w12.cell? ⟨gb286, 1, none⟩ = some (.string (⟨#[]⟩ : ByteArray)) := (blk_cell BK286.out 1).trans rfl
         have hcz33_2 : w12.cell? ⟨gb286, 2, none⟩ = some (.int .u8 0) := (blk_cell BK286.out 2).trans rfl
         have hcz33_3 : w12.cell? ⟨gb286, 3, none⟩ = some (.int .u32 0) := (blk_cell BK286.out 3).trans rfl
         have hfz33_0 := blk_frozen BK286.out 0
         have hfz33_1 := blk_frozen BK286.out 1
         have hfz33_2 := blk_frozen BK286.out 2
         have hfz33_3 := blk_frozen BK286.out 3
         go_wp2_with (first | ((with_reducible refine gate_callee (f := 12) rfl ?_); refine goesL_ (some 23) rfl rfl Tryz.func12 (by kernel_rfl) rfl #[.slice (some ad285) t282.length co7, .int .u32 ((rd_T30 t282 x14_1).f0), .int .u32 ((rd_T30 t282 x14_1).f0)] rfl (by (try simp only [List.map_toArray, List.map_cons, List.map_nil]); first | done | rfl | (simp only [List.length_drop, List.length_take]; rfl)) ?_; (with_reducible refine (chart_Chart_Within.calls k1 _ _ t282 ((rd_T30 t282 x14_1).f0) ((rd_T30 t282 x14_1).f0) false _ ?side1 ?side2 A14.out).mono ?_); (case side1 => refine (Kd.R_reads' (e := 30) (base := w.heap.size) (ok := fun k_ => (True ∧ k_ ≠ gb286)) (n := t282.length) (c := co7) ?_).2.2; exact (by (with_reducible repeat (first | apply Kd.R_alloc | apply Kd.R_drewN | apply Kd.R_drew)); exact (Kd.R_mono (Kd.R_far (p := ⟨gb286, 3, none⟩) (Kd.R_far (p := ⟨gb286, 2, none⟩) (Kd.R_far (p := ⟨gb286, 1, none⟩) (Kd.R_far (p := ⟨gb286, 0, none⟩) (Kd.R_mono HO_3.out (fun k_ hk => (⟨hk, hk.2⟩ : _ ∧ k_ ≠ gb286))) (fun _ hk => hk.2) (.int .u32 ((rd_T30 t282 x14_1).f0))) (fun _ hk => hk.2) (.string ((rd_T30 t282 x14_1).f1))) (fun _ hk => hk.2) (.int .u8 ((rd_T30 t282 x14_1).f2))) (fun _ hk => hk.2) (.int .u32 ((rd_T30 t282 x14_1).f3))) (fun _ h_ => h_.1)))); (case side2 => exact (Kd.R_reads' HO_3.out).2.1); rintro e w34 ⟨rfl, hb⟩; refine ⟨_, rfl, ?_⟩; have n0_ := Aside0.mk (Kd.R_below (by (with_reducible repeat (first | apply Kd.R_alloc | apply Kd.R_drewN | apply Kd.R_drew)); exact (Kd.R_mono (Kd.R_far (p := ⟨gb286, 3, none⟩) (Kd.R_far (p := ⟨gb286, 2, none⟩) (Kd.R_far (p := ⟨gb286, 1, none⟩) (Kd.R_far (p := ⟨gb286, 0, none⟩) (Kd.R_mono HO_3.out (fun k_ hk => (⟨hk, hk.2⟩ : _ ∧ k_ ≠ gb286))) (fun _ hk => hk.2) (.int .u32 ((rd_T30 t282 x14_1).f0))) (fun _ hk => hk.2) (.string ((rd_T30 t282 x14_1).f1))) (fun _ hk => hk.2) (.int .u8 ((rd_T30 t282 x14_1).f2))) (fun _ hk => hk.2) (.int .u32 ((rd_T30 t282 x14_1).f3))) (fun _ h_ => h_.1))) hb); have n1_ := Aside0.mk (Kd.R_below (by (with_reducible repeat (first | apply Kd.R_alloc | apply Kd.R_drewN | apply Kd.R_drew)); exact (Kd.R_mono (Kd.R_far (p := ⟨gb286, 3, none⟩) (Kd.R_far (p := ⟨gb286, 2, none⟩) (Kd.R_far (p := ⟨gb286, 1, none⟩) (Kd.R_far (p := ⟨gb286, 0, none⟩) (Kd.R_mono HO_12.out (fun k_ hk => (⟨hk, hk.2⟩ : _ ∧ k_ ≠ gb286))) (fun _ hk => hk.2) (.int .u32 ((rd_T30 t282 x14_1).f0))) (fun _ hk => hk.2) (.string ((rd_T30 t282 x14_1).f1))) (fun _ hk => hk.2) (.int .u8 ((rd_T30 t282 x14_1).f2))) (fun _ hk => hk.2) (.int .u32 ((rd_T30 t282 x14_1).f3))) (fun _ h_ => h_.1))) hb); have n2_ := Aside0.mk (blk_below (g := gb286) (o := .cells #[.int .u32 ((rd_T30 t282 x14_1).f0), .string ((rd_T30 t282 x14_1).f1), .int .u8 ((rd_T30 t282 x14_1).f2), .int .u32 ((rd_T30 t282 x14_1).f3)] 30 (0, 0)) (by (with_reducible repeat (first | refine blk_drewN ?_ _ | refine blk_drew ?_ | refine blk_alloc ?_ _)); refine blk_put (cs := #[.int .u32 ((rd_T30 t282 x14_1).f0), .string ((rd_T30 t282 x14_1).f1), .int .u8 ((rd_T30 t282 x14_1).f2), .int .u32 0]) ?_ 3 _ rfl; (with_reducible repeat (first | refine blk_drewN ?_ _ | refine blk_drew ?_ | refine blk_alloc ?_ _)); refine blk_put (cs := #[.int .u32 ((rd_T30 t282 x14_1).f0), .string ((rd_T30 t282 x14_1).f1), .int .u8 0, .int .u32 0]) ?_ 2 _ rfl; (with_reducible repeat (first | refine blk_drewN ?_ _ | refine blk_drew ?_ | refine blk_alloc ?_ _)); refine blk_put (cs := #[.int .u32 ((rd_T30 t282 x14_1).f0), .string (⟨#[]⟩ : ByteArray), .int .u8 0, .int .u32 0]) ?_ 1 _ rfl; (with_reducible repeat (first | refine blk_drewN ?_ _ | refine blk_drew ?_ | refine blk_alloc ?_ _)); refine blk_put (cs := #[.int .u32 0, .string (⟨#[]⟩ : ByteArray), .int .u8 0, .int .u32 0]) ?_ 0 _ rfl; (with_reducible repeat (first | refine blk_drewN ?_ _ | refine blk_drew ?_ | refine blk_alloc ?_ _)); exact BK286.out) hb); have n3_ := Aside0.mk (below_step (by repeat (first | (with_reducible first | exact HB.out | apply below_alloc | apply pw_below_drewN | apply below_drew1 | refine below_set ?_ GE286.out) | exact HB.out)) hb); clear HO_3; clear HO_12; clear BK286; clear HB; have HO_3 := n0_; have HO_12 := n1_; have BK286 := n2_; have HB := n3_; clear n0_ n1_ n2_ n3_; (try clear hb); (try clear hb2); (try clear hk); (try clear hi)))
         go_meet
         case rel => exact ⟨_, (true), (by first | rfl | (simp; done) | (simp [*]; done)), H', ⟨by have := HK1.out; first | omega | exact Nat.le_refl _⟩, ⟨by (with_reducible repeat (first | apply Kd.R_alloc | apply Kd.R_drewN | apply Kd.R_drew)); exact Kd.R_mono HO_3.out (fun _ hk => hk.2)⟩, ⟨by (with_reducible repeat (first | apply Kd.R_alloc | apply Kd.R_drewN | apply Kd.R_drew)); exact Kd.R_mono HO_12.out (fun _ hk => hk.2)⟩, ⟨by (with_reducible repeat (first | refine blk_drewN ?_ _ | refine blk_drew ?_ | refine blk_alloc ?_ _)); exact BK286.out⟩, ⟨by repeat (first | (with_reducible first | exact HB.out | apply below_alloc | apply pw_below_drewN | apply below_drew1 | refine below_set ?_ GE286.out) | exact HB.out)⟩⟩
       case rest =>
        clear HC11
        try clear c1
        try clear c2
        try clear p2
        try clear q2
        try clear hx2
        try clear c3
        try clear c8
        try clear c8b0
        try clear c9
        try clear c9b0
        try clear c10
        try clear c10b0
        try clear c11
        try clear c12
        try clear c15
        try clear c16
        try clear c16b0
        try clear c16b1
        try clear c21
        try clear p28
        try clear q28
        try clear hx28
        try clear hcz13_0
        try clear hcz13_1
        try clear hcz13_2
        try clear hcz13_3
        try clear hcz17_0
        try clear hcz17_1
        try clear hcz17_2
        try clear hcz17_3
        try clear hcz19_0
        try clear hcz19_1
        try clear hcz19_2
        try clear hcz19_3
        try clear hcz23_0
        try clear hcz23_1
        try clear hcz23_2
        try clear hcz23_3
        try clear hcz25_0
        try clear hcz25_1
        try clear hcz25_2
        try clear hcz25_3
        try clear hcz27_0
        try clear hcz27_1
        try clear hcz27_2
        try clear hcz27_3
        try clear hcz29_0
        try clear hcz29_1
        try clear hcz29_2
        try clear hcz29_3
        try clear hcz31_0
        try clear hcz31_1
        try clear hcz31_2
        try clear hcz31_3
        try clear hcz33_0
        try clear hcz33_1
        try clear hcz33_2
        try clear hcz33_3
        try clear hfz13_0
        try clear hfz13_1
        try clear hfz13_2
        try clear hfz13_3
        try clear hfz17_0
        try clear hfz17_1
        try clear hfz17_2
        try clear hfz17_3
        try clear hfz19_0
        try clear hfz19_1
        try clear hfz19_2
        try clear hfz19_3
        try clear hfz23_0
        try clear hfz23_1
        try clear hfz23_2
        try clear hfz23_3
        try clear hfz25_0
        try clear hfz25_1
        try clear hfz25_2
        try clear hfz25_3
        try clear hfz27_0
        try clear hfz27_1
        try clear hfz27_2
        try clear hfz27_3
        try clear hfz29_0
        try clear hfz29_1
        try clear hfz29_2
        try clear hfz29_3
        try clear hfz31_0
        try clear hfz31_1
        try clear hfz31_2
        try clear hfz31_3
        try clear hfz33_0
        try clear hfz33_1
        try clear hfz33_2
        try clear hfz33_3
        try clear hx285_0
        try clear hx285_1
        try clear hx285_2
        try clear hx285_3
        try clear p2
        try clear p285
        try clear q285
        obtain ⟨kq, x46_10, rfl, HA, HJ10, HO_3, HO_12, BK286, HB⟩ := hcut
        cases kq with
        | zero => exact absurd HA.out (by simp [transposallaw06_ChartTree.j1])
        | succ kj10 =>
         have H := HA.out
         clear HA
         simp only [transposallaw06_ChartTree.j1] at H
         by_cases c35 : x46_10 = true
         ·subst c35
          have H1 : (some false) = some r := by rw [if_pos rfl] at H; exact H
          clear H
          have H := H1
          clear H1
          obtain rfl := Option.some.inj H
          go_wp2
          go_ret
          exact ⟨by first | rfl | (simp [errW_none, errW_some] <;> rfl) | (simp [*, errW_none, errW_some] <;> rfl), by repeat (first | (with_reducible first | exact HB.out | apply below_alloc | apply pw_below_drewN | apply below_drew1 | refine below_set ?_ GE286.out) | exact HB.out)⟩
         ·replace c35 := Bool.eq_false_iff.mpr c35
          subst c35
          have H1 : (transposallaw06_ChartTree.l1 kj10 t282 t282 (t282.length : Int) x14_1 t282 (t282.length : Int) 0 ((rd_T30 t282 x14_1).f0) ((rd_T30 t282 x14_1).f1) ((rd_T30 t282 x14_1).f2) ((rd_T30 t282 x14_1).f3)) = some r := by rw [if_neg (show ¬ (false = true) by decide)] at H; exact H
          clear H
          have H := H1
          clear H1
          have H' := Aside0.mk H
          clear H
          go_wp2
          go_loopg [49] kj10 (fun kq v49 w' => ∃ (x49_3 : Int), v49 = .int .i64 x49_3 ∧ Aside0 (transposallaw06_ChartTree.l1 kq t282 t282 (t282.length : Int) x14_1 t282 (t282.length : Int) x49_3 ((rd_T30 t282 x14_1).f0) ((rd_T30 t282 x14_1).f1) ((rd_T30 t282 x14_1).f2) ((rd_T30 t282 x14_1).f3) = some r) ∧ Aside0 (kq ≤ kj10) ∧ Aside0 (Kd.R k30 30 w' w.heap.size (fun k_ => k_ ≠ gb286) (.slice (some ad285) t282.length co7) t282) ∧ Aside0 (Kd.R k30 30 w' w.heap.size (fun k_ => k_ ≠ gb286) (.slice (some ad285) t282.length co7) t282) ∧ Aside0 (Kd.R k30 30 w' w.heap.size (fun k_ => k_ ≠ gb286) (.slice (some ad285) t282.length co7) t282) ∧ Aside0 (w'.heap[gb286]? = some (.cells #[.int .u32 ((rd_T30 t282 x14_1).f0), .string ((rd_T30 t282 x14_1).f1), .int .u8 ((rd_T30 t282 x14_1).f2), .int .u32 ((rd_T30 t282 x14_1).f3)] 30 (0, 0))) ∧ Aside0 (Below w.heap.size w w'))
          case atStart => exact ⟨(0), (by first | rfl | (simp; done) | (simp [*]; done)), H', ⟨Nat.le_refl _⟩, ⟨by (with_reducible repeat (first | apply Kd.R_alloc | apply Kd.R_drewN | apply Kd.R_drew)); exact HO_3.out⟩, ⟨by (with_reducible repeat (first | apply Kd.R_alloc | apply Kd.R_drewN | apply Kd.R_drew)); exact HO_12.out⟩, ⟨by (with_reducible repeat (first | apply Kd.R_alloc | apply Kd.R_drewN | apply Kd.R_drew)); exact HO_3.out⟩, ⟨by (with_reducible repeat (first | refine blk_drewN ?_ _ | refine blk_drew ?_ | refine blk_alloc ?_ _)); exact BK286.out⟩, ⟨by repeat (first | (with_reducible first | exact HB.out | apply below_alloc | apply pw_below_drewN | apply below_drew1 | refine below_set ?_ GE286.out) | exact HB.out)⟩⟩
          case round =>
           clear H'
           try clear c1
           try clear c2
           try clear p2
           try clear q2
           try clear hx2
           try clear c3
           try clear c8
           try clear c8b0
           try clear c9
           try clear c9b0
           try clear c10
           try clear c10b0
           try clear c11
           try clear c12
           try clear c15
           try clear c16
           try clear c16b0
           try clear c16b1
           try clear c21
           try clear p28
           try clear q28
           try clear hx28
           try clear c35
           try clear hcz13_0
           try clear hcz13_1
           try clear hcz13_2
           try clear hcz13_3
           try clear hcz17_0
           try clear hcz17_1
           try clear hcz17_2
           try clear hcz17_3
           try clear hcz19_0
           try clear hcz19_1
           try clear hcz19_2
           try clear hcz19_3
           try clear hcz23_0
           try clear hcz23_1
           try clear hcz23_2
           try clear hcz23_3
           try clear hcz25_0
           try clear hcz25_1
           try clear hcz25_2
           try clear hcz25_3
           try clear hcz27_0
           try clear hcz27_1
           try clear hcz27_2
           try clear hcz27_3
           try clear hcz29_0
           try clear hcz29_1
           try clear hcz29_2
           try clear hcz29_3
           try clear hcz31_0
           try clear hcz31_1
           try clear hcz31_2
           try clear hcz31_3
           try clear hcz33_0
           try clear hcz33_1
           try clear hcz33_2
           try clear hcz33_3
           try clear hfz13_0
           try clear hfz13_1
           try clear hfz13_2
           try clear hfz13_3
           try clear hfz17_0
           try clear hfz17_1
           try clear hfz17_2
           try clear hfz17_3
           try clear hfz19_0
           try clear hfz19_1
           try clear hfz19_2
           try clear hfz19_3
           try clear hfz23_0
           try clear hfz23_1
           try clear hfz23_2
           try clear hfz23_3
           try clear hfz25_0
           try clear hfz25_1
           try clear hfz25_2
           try clear hfz25_3
           try clear hfz27_0
           try clear hfz27_1
           try clear hfz27_2
           try clear hfz27_3
           try clear hfz29_0
           try clear hfz29_1
           try clear hfz29_2
           try clear hfz29_3
           try clear hfz31_0
           try clear hfz31_1
           try clear hfz31_2
           try clear hfz31_3
           try clear hfz33_0
           try clear hfz33_1
           try clear hfz33_2
           try clear hfz33_3
           try clear hx285_0
           try clear hx285_1
           try clear hx285_2
           try clear hx285_3
           try clear p2
           try clear p28
           try clear p285
           try clear q2
           try clear q28
           try clear q285
           obtain ⟨x49_3, rfl, HA, HK3, HO_3, HO_12, HO_47, BK286, HB⟩ := hrel
           cases gk with
           | zero => exact absurd HA.out (by simp [transposallaw06_ChartTree.l1])
           | succ k3 =>
            have H := HA.out
            clear HA
            simp only [transposallaw06_ChartTree.l1] at H
            by_cases c36 : x49_3 < (t282.length : Int)
            ·rw [if_pos c36] at H
             have c36b0 : decide (x49_3 < (t282.length : Int)) = true := decide_eq_true c36
             clear c36
             by_cases c37 : 0 ≤ x49_3
             ·rw [if_pos c37] at H
              have c37b0 : decide (0 ≤ x49_3) = true := decide_eq_true c37
              clear c37
              by_cases c38 : x49_3 < (t282.length : Int)
              ·rw [if_pos c38] at H
               have c38b0 : decide (x49_3 < (t282.length : Int)) = true := decide_eq_true c38
               clear c38
               have HC39 := Aside0.mk H
               clear H
               have p290 : 0 ≤ (x49_3 : Int) := of_decide_eq_true (by first | (with_reducible assumption) | assumption)
               have q290 : x49_3 < (t282.length : Int) := of_decide_eq_true (by first | (with_reducible assumption) | assumption)
               obtain ⟨ad290, e290, hx290_0, hx290_1, hx290_2, hx290_3⟩ := at_T30 (Kd.R_reads' HO_47.out).2.2 x49_3 p290 q290
               obtain rfl : ad285 = ad290 := (by injection e290)
               replace p290 := eq_true p290
               replace q290 := eq_true q290
               go_upto_region 12 with (first | ((with_reducible refine gate_dst (N := 7) rfl ?_); refine box_event ?hg (N := 7) ?hd (cs := #[.int .u32 0, .string (⟨#[]⟩ : ByteArray), .int .u8 0, .int .u32 0]) (t := 30) ?hr ?_; (case hd => rfl); (case hg => rfl); (case hr => first | (go_simp; done) | (go_simp; rfl)); intro gb291 hg w40 hbox hb; have n0_ := Aside0.mk (Kd.R_below (Kd.R_elderB (by (with_reducible repeat (first | apply Kd.R_alloc | apply Kd.R_drewN | apply Kd.R_drew)); exact HO_3.out) gb291 (Nat.le_of_eq hg.symm)) hb); have n1_ := Aside0.mk (Kd.R_below (Kd.R_elderB (by (with_reducible repeat (first | apply Kd.R_alloc | apply Kd.R_drewN | apply Kd.R_drew)); exact HO_12.out) gb291 (Nat.le_of_eq hg.symm)) hb); have n2_ := Aside0.mk (Kd.R_below (Kd.R_elderB (by (with_reducible repeat (first | apply Kd.R_alloc | apply Kd.R_drewN | apply Kd.R_drew)); exact HO_47.out) gb291 (Nat.le_of_eq hg.symm)) hb); have n3_ := Aside0.mk (blk_below (g := gb286) (o := .cells #[.int .u32 ((rd_T30 t282 x14_1).f0), .string ((rd_T30 t282 x14_1).f1), .int .u8 ((rd_T30 t282 x14_1).f2), .int .u32 ((rd_T30 t282 x14_1).f3)] 30 (0, 0)) (by (with_reducible repeat (first | refine blk_drewN ?_ _ | refine blk_drew ?_ | refine blk_alloc ?_ _)); exact BK286.out) hb); have n4_ := Aside0.mk (below_step (by repeat (first | (with_reducible first | exact HB.out | apply below_alloc | apply pw_below_drewN | apply below_drew1 | refine below_set ?_ GE286.out) | exact HB.out)) hb); have n5_ := Aside0.mk (hbox); have n6_ := Aside0.mk ((by rw [hg]; exact (below_size (by repeat (first | (with_reducible first | exact HB.out | apply below_alloc | apply pw_below_drewN | apply below_drew1 | refine below_set ?_ GE286.out) | exact HB.out))) : w.heap.size ≤ gb291)); have n7_ := Aside0.mk ((by rw [hg]; exact (below_size (by repeat (first | (with_reducible first | exact HB.out | apply below_alloc | apply pw_below_drewN | apply below_drew1 | refine below_set ?_ GE286.out) | exact HB.out))) : w.heap.size ≤ gb291)); have n8_ := Aside0.mk ((by rw [hg]; exact Nat.ne_of_lt (blk_lt (g := gb286) (o := .cells #[.int .u32 ((rd_T30 t282 x14_1).f0), .string ((rd_T30 t282 x14_1).f1), .int .u8 ((rd_T30 t282 x14_1).f2), .int .u32 ((rd_T30 t282 x14_1).f3)] 30 (0, 0)) (by (with_reducible repeat (first | refine blk_drewN ?_ _ | refine blk_drew ?_ | refine blk_alloc ?_ _)); exact BK286.out)) : gb286 ≠ gb291)); have n9_ := Aside0.mk ((by rw [hg]; exact Nat.ne_of_gt (blk_lt (g := gb286) (o := .cells #[.int .u32 ((rd_T30 t282 x14_1).f0), .string ((rd_T30 t282 x14_1).f1), .int .u8 ((rd_T30 t282 x14_1).f2), .int .u32 ((rd_T30 t282 x14_1).f3)] 30 (0, 0)) (by (with_reducible repeat (first | refine blk_drewN ?_ _ | refine blk_drew ?_ | refine blk_alloc ?_ _)); exact BK286.out)) : gb291 ≠ gb286)); clear HO_3; clear HO_12; clear HO_47; clear BK286; clear HB; have HO_3 := n0_; have HO_12 := n1_; have HO_47 := n2_; have BK286 := n3_; have HB := n4_; have BK291 := n5_; have GW291 := n6_; have GE291 := n7_; have NB286_291 := n8_; have NB291_286 := n9_; clear n0_ n1_ n2_ n3_ n4_ n5_ n6_ n7_ n8_ n9_; clear hb hbox hg; have hnb41 := NB291_286.out; have hnc41 := NB286_291.out; have hcz42_0 : w40.cell? ⟨gb291, 0, none⟩ = some (.int .u32 0) := (blk_cell BK291.out 0).trans rfl; have hcz42_1 : w40.cell? ⟨gb291, 1, none⟩ = some (.string (⟨#[]⟩ : ByteArray)) := (blk_cell BK291.out 1).trans rfl; have hcz42_2 : w40.cell? ⟨gb291, 2, none⟩ = some (.int .u8 0) := (blk_cell BK291.out 2).trans rfl; have hcz42_3 : w40.cell? ⟨gb291, 3, none⟩ = some (.int .u32 0) := (blk_cell BK291.out 3).trans rfl; have hfz42_0 := blk_frozen BK291.out 0; have hfz42_1 := blk_frozen BK291.out 1; have hfz42_2 := blk_frozen BK291.out 2; have hfz42_3 := blk_frozen BK291.out 3))
               (try simp only [Act.put, List.setIfInBounds_toArray, List.set_cons_zero, List.set_cons_succ])
               go_cut [88] (fun v88 wc => ∃ (kq : Nat) (x88_38 : Bool), v88 = .bool x88_38 ∧ Aside0 (transposallaw06_ChartTree.j3 kq t282 t282 (t282.length : Int) x14_1 t282 (t282.length : Int) x49_3 x88_38 ((rd_T30 t282 x14_1).f0) ((rd_T30 t282 x14_1).f1) ((rd_T30 t282 x14_1).f2) ((rd_T30 t282 x14_1).f3) ((rd_T30 t282 x49_3).f0) ((rd_T30 t282 x49_3).f1) ((rd_T30 t282 x49_3).f2) ((rd_T30 t282 x49_3).f3) = some r) ∧ Aside0 (kq ≤ k3) ∧ Aside0 (Kd.R k30 30 wc w.heap.size (fun k_ => k_ ≠ gb286 ∧ k_ ≠ gb291) (.slice (some ad285) t282.length co7) t282) ∧ Aside0 (Kd.R k30 30 wc w.heap.size (fun k_ => k_ ≠ gb286 ∧ k_ ≠ gb291) (.slice (some ad285) t282.length co7) t282) ∧ Aside0 (Kd.R k30 30 wc w.heap.size (fun k_ => k_ ≠ gb286 ∧ k_ ≠ gb291) (.slice (some ad285) t282.length co7) t282) ∧ Aside0 (wc.heap[gb286]? = some (.cells #[.int .u32 ((rd_T30 t282 x14_1).f0), .string ((rd_T30 t282 x14_1).f1), .int .u8 ((rd_T30 t282 x14_1).f2), .int .u32 ((rd_T30 t282 x14_1).f3)] 30 (0, 0))) ∧ Aside0 (wc.heap[gb291]? = some (.cells #[.int .u32 ((rd_T30 t282 x49_3).f0), .string ((rd_T30 t282 x49_3).f1), .int .u8 ((rd_T30 t282 x49_3).f2), .int .u32 ((rd_T30 t282 x49_3).f3)] 30 (0, 0))) ∧ Aside0 (Below w.heap.size w wc))
               case first =>
                have H := HC39.out
                clear HC39
                replace H := Option.bind_eq_some_iff.mp H
                obtain ⟨t292, A430, H⟩ := H
                replace H : (if t292 = true then (if ((rd_T30 t282 x14_1).f2) = ((rd_T30 t282 x49_3).f2) then ((chart_Chart_Within.f k3 t282 ((rd_T30 t282 x14_1).f0) ((rd_T30 t282 x49_3).f0)).bind fun t293 => (if t293 = true then ((chart_Chart_Within.f k3 t282 ((rd_T30 t282 x49_3).f0) ((rd_T30 t282 x14_1).f0)).bind fun t294 => (if t294 = true then (transposallaw06_ChartTree.j3 k3 t282 t282 (t282.length : Int) x14_1 t282 (t282.length : Int) x49_3 (((rd_T30 t282 x14_1).f0) != ((rd_T30 t282 x49_3).f0)) ((rd_T30 t282 x14_1).f0) ((rd_T30 t282 x14_1).f1) ((rd_T30 t282 x14_1).f2) ((rd_T30 t282 x14_1).f3) ((rd_T30 t282 x49_3).f0) ((rd_T30 t282 x49_3).f1) ((rd_T30 t282 x49_3).f2) ((rd_T30 t282 x49_3).f3)) else (transposallaw06_ChartTree.j3 k3 t282 t282 (t282.length : Int) x14_1 t282 (t282.length : Int) x49_3 false ((rd_T30 t282 x14_1).f0) ((rd_T30 t282 x14_1).f1) ((rd_T30 t282 x14_1).f2) ((rd_T30 t282 x14_1).f3) ((rd_T30 t282 x49_3).f0) ((rd_T30 t282 x49_3).f1) ((rd_T30 t282 x49_3).f2) ((rd_T30 t282 x49_3).f3)))) else (transposallaw06_ChartTree.j3 k3 t282 t282 (t282.length : Int) x14_1 t282 (t282.length : Int) x49_3 false ((rd_T30 t282 x14_1).f0) ((rd_T30 t282 x14_1).f1) ((rd_T30 t282 x14_1).f2) ((rd_T30 t282 x14_1).f3) ((rd_T30 t282 x49_3).f0) ((rd_T30 t282 x49_3).f1) ((rd_T30 t282 x49_3).f2) ((rd_T30 t282 x49_3).f3)))) else (transposallaw06_ChartTree.j3 k3 t282 t282 (t282.length : Int) x14_1 t282 (t282.length : Int) x49_3 true ((rd_T30 t282 x14_1).f0) ((rd_T30 t282 x14_1).f1) ((rd_T30 t282 x14_1).f2) ((rd_T30 t282 x14_1).f3) ((rd_T30 t282 x49_3).f0) ((rd_T30 t282 x49_3).f1) ((rd_T30 t282 x49_3).f2) ((rd_T30 t282 x49_3).f3))) else ((chart_Chart_Within.f k3 t282 ((rd_T30 t282 x14_1).f0) ((rd_T30 t282 x49_3).f0)).bind fun t295 => (if t295 = true then ((chart_Chart_Within.f k3 t282 ((rd_T30 t282 x49_3).f0) ((rd_T30 t282 x14_1).f0)).bind fun t296 => (if t296 = true then (transposallaw06_ChartTree.j3 k3 t282 t282 (t282.length : Int) x14_1 t282 (t282.length : Int) x49_3 (((rd_T30 t282 x14_1).f0) != ((rd_T30 t282 x49_3).f0)) ((rd_T30 t282 x14_1).f0) ((rd_T30 t282 x14_1).f1) ((rd_T30 t282 x14_1).f2) ((rd_T30 t282 x14_1).f3) ((rd_T30 t282 x49_3).f0) ((rd_T30 t282 x49_3).f1) ((rd_T30 t282 x49_3).f2) ((rd_T30 t282 x49_3).f3)) else (transposallaw06_ChartTree.j3 k3 t282 t282 (t282.length : Int) x14_1 t282 (t282.length : Int) x49_3 false ((rd_T30 t282 x14_1).f0) ((rd_T30 t282 x14_1).f1) ((rd_T30 t282 x14_1).f2) ((rd_T30 t282 x14_1).f3) ((rd_T30 t282 x49_3).f0) ((rd_T30 t282 x49_3).f1) ((rd_T30 t282 x49_3).f2) ((rd_T30 t282 x49_3).f3)))) else (transposallaw06_ChartTree.j3 k3 t282 t282 (t282.length : Int) x14_1 t282 (t282.length : Int) x49_3 false ((rd_T30 t282 x14_1).f0) ((rd_T30 t282 x14_1).f1) ((rd_T30 t282 x14_1).f2) ((rd_T30 t282 x14_1).f3) ((rd_T30 t282 x49_3).f0) ((rd_T30 t282 x49_3).f1) ((rd_T30 t282 x49_3).f2) ((rd_T30 t282 x49_3).f3))))) = some r := H
                have A43 := Aside0.mk A430
                clear A430
                by_cases c44 : t292 = true
                ·subst c44
                 have H1 : (if ((rd_T30 t282 x14_1).f2) = ((rd_T30 t282 x49_3).f2) then ((chart_Chart_Within.f k3 t282 ((rd_T30 t282 x14_1).f0) ((rd_T30 t282 x49_3).f0)).bind fun t293 => (if t293 = true then ((chart_Chart_Within.f k3 t282 ((rd_T30 t282 x49_3).f0) ((rd_T30 t282 x14_1).f0)).bind fun t294 => (if t294 = true then (transposallaw06_ChartTree.j3 k3 t282 t282 (t282.length : Int) x14_1 t282 (t282.length : Int) x49_3 (((rd_T30 t282 x14_1).f0) != ((rd_T30 t282 x49_3).f0)) ((rd_T30 t282 x14_1).f0) ((rd_T30 t282 x14_1).f1) ((rd_T30 t282 x14_1).f2) ((rd_T30 t282 x14_1).f3) ((rd_T30 t282 x49_3).f0) ((rd_T30 t282 x49_3).f1) ((rd_T30 t282 x49_3).f2) ((rd_T30 t282 x49_3).f3)) else (transposallaw06_ChartTree.j3 k3 t282 t282 (t282.length : Int) x14_1 t282 (t282.length : Int) x49_3 false ((rd_T30 t282 x14_1).f0) ((rd_T30 t282 x14_1).f1) ((rd_T30 t282 x14_1).f2) ((rd_T30 t282 x14_1).f3) ((rd_T30 t282 x49_3).f0) ((rd_T30 t282 x49_3).f1) ((rd_T30 t282 x49_3).f2) ((rd_T30 t282 x49_3).f3)))) else (transposallaw06_ChartTree.j3 k3 t282 t282 (t282.length : Int) x14_1 t282 (t282.length : Int) x49_3 false ((rd_T30 t282 x14_1).f0) ((rd_T30 t282 x14_1).f1) ((rd_T30 t282 x14_1).f2) ((rd_T30 t282 x14_1).f3) ((rd_T30 t282 x49_3).f0) ((rd_T30 t282 x49_3).f1) ((rd_T30 t282 x49_3).f2) ((rd_T30 t282 x49_3).f3)))) else (transposallaw06_ChartTree.j3 k3 t282 t282 (t282.length : Int) x14_1 t282 (t282.length : Int) x49_3 true ((rd_T30 t282 x14_1).f0) ((rd_T30 t282 x14_1).f1) ((rd_T30 t282 x14_1).f2) ((rd_T30 t282 x14_1).f3) ((rd_T30 t282 x49_3).f0) ((rd_T30 t282 x49_3).f1) ((rd_T30 t282 x49_3).f2) ((rd_T30 t282 x49_3).f3))) = some r := by rw [if_pos rfl] at H; exact H
                 clear H
                 have H := H1
                 clear H1
                 by_cases c45 : ((rd_T30 t282 x14_1).f2) = ((rd_T30 t282 x49_3).f2)
                 ·rw [if_pos c45] at H
                  have c45b0 : (((rd_T30 t282 x14_1).f2) == ((rd_T30 t282 x49_3).f2)) = true := beq_iff_eq.mpr c45
                  have c45b1 : (((rd_T30 t282 x14_1).f2) != ((rd_T30 t282 x49_3).f2)) = false := bne_eq_false_iff_eq.mpr c45
                  clear c45
                  (first | rw [c45b0] | (simp only [i64_w, i32_w]; rw [c45b0]) | skip)
                  replace H := Option.bind_eq_some_iff.mp H
                  obtain ⟨t293, A460, H⟩ := H
                  replace H : (if t293 = true then ((chart_Chart_Within.f k3 t282 ((rd_T30 t282 x49_3).f0) ((rd_T30 t282 x14_1).f0)).bind fun t294 => (if t294 = true then (transposallaw06_ChartTree.j3 k3 t282 t282 (t282.length : Int) x14_1 t282 (t282.length : Int) x49_3 (((rd_T30 t282 x14_1).f0) != ((rd_T30 t282 x49_3).f0)) ((rd_T30 t282 x14_1).f0) ((rd_T30 t282 x14_1).f1) ((rd_T30 t282 x14_1).f2) ((rd_T30 t282 x14_1).f3) ((rd_T30 t282 x49_3).f0) ((rd_T30 t282 x49_3).f1) ((rd_T30 t282 x49_3).f2) ((rd_T30 t282 x49_3).f3)) else (transposallaw06_ChartTree.j3 k3 t282 t282 (t282.length : Int) x14_1 t282 (t282.length : Int) x49_3 false ((rd_T30 t282 x14_1).f0) ((rd_T30 t282 x14_1).f1) ((rd_T30 t282 x14_1).f2) ((rd_T30 t282 x14_1).f3) ((rd_T30 t282 x49_3).f0) ((rd_T30 t282 x49_3).f1) ((rd_T30 t282 x49_3).f2) ((rd_T30 t282 x49_3).f3)))) else (transposallaw06_ChartTree.j3 k3 t282 t282 (t282.length : Int) x14_1 t282 (t282.length : Int) x49_3 false ((rd_T30 t282 x14_1).f0) ((rd_T30 t282 x14_1).f1) ((rd_T30 t282 x14_1).f2) ((rd_T30 t282 x14_1).f3) ((rd_T30 t282 x49_3).f0) ((rd_T30 t282 x49_3).f1) ((rd_T30 t282 x49_3).f2) ((rd_T30 t282 x49_3).f3))) = some r := H
                  have A46 := Aside0.mk A460
                  clear A460
                  by_cases c47 : t293 = true
                  ·subst c47
                   have H1 : ((chart_Chart_Within.f k3 t282 ((rd_T30 t282 x49_3).f0) ((rd_T30 t282 x14_1).f0)).bind fun t294 => (if t294 = true then (transposallaw06_ChartTree.j3 k3 t282 t282 (t282.length : Int) x14_1 t282 (t282.length : Int) x49_3 (((rd_T30 t282 x14_1).f0) != ((rd_T30 t282 x49_3).f0)) ((rd_T30 t282 x14_1).f0) ((rd_T30 t282 x14_1).f1) ((rd_T30 t282 x14_1).f2) ((rd_T30 t282 x14_1).f3) ((rd_T30 t282 x49_3).f0) ((rd_T30 t282 x49_3).f1) ((rd_T30 t282 x49_3).f2) ((rd_T30 t282 x49_3).f3)) else (transposallaw06_ChartTree.j3 k3 t282 t282 (t282.length : Int) x14_1 t282 (t282.length : Int) x49_3 false ((rd_T30 t282 x14_1).f0) ((rd_T30 t282 x14_1).f1) ((rd_T30 t282 x14_1).f2) ((rd_T30 t282 x14_1).f3) ((rd_T30 t282 x49_3).f0) ((rd_T30 t282 x49_3).f1) ((rd_T30 t282 x49_3).f2) ((rd_T30 t282 x49_3).f3)))) = some r := by rw [if_pos rfl] at H; exact H
                   clear H
                   have H := H1
                   clear H1
                   replace H := Option.bind_eq_some_iff.mp H
                   obtain ⟨t294, A480, H⟩ := H
                   replace H : (if t294 = true then (transposallaw06_ChartTree.j3 k3 t282 t282 (t282.length : Int) x14_1 t282 (t282.length : Int) x49_3 (((rd_T30 t282 x14_1).f0) != ((rd_T30 t282 x49_3).f0)) ((rd_T30 t282 x14_1).f0) ((rd_T30 t282 x14_1).f1) ((rd_T30 t282 x14_1).f2) ((rd_T30 t282 x14_1).f3) ((rd_T30 t282 x49_3).f0) ((rd_T30 t282 x49_3).f1) ((rd_T30 t282 x49_3).f2) ((rd_T30 t282 x49_3).f3)) else (transposallaw06_ChartTree.j3 k3 t282 t282 (t282.length : Int) x14_1 t282 (t282.length : Int) x49_3 false ((rd_T30 t282 x14_1).f0) ((rd_T30 t282 x14_1).f1) ((rd_T30 t282 x14_1).f2) ((rd_T30 t282 x14_1).f3) ((rd_T30 t282 x49_3).f0) ((rd_T30 t282 x49_3).f1) ((rd_T30 t282 x49_3).f2) ((rd_T30 t282 x49_3).f3))) = some r := H
                   have A48 := Aside0.mk A480
                   clear A480
                   by_cases c49 : t294 = true
                   ·subst c49
                    have H1 : (transposallaw06_ChartTree.j3 k3 t282 t282 (t282.length : Int) x14_1 t282 (t282.length : Int) x49_3 (((rd_T30 t282 x14_1).f0) != ((rd_T30 t282 x49_3).f0)) ((rd_T30 t282 x14_1).f0) ((rd_T30 t282 x14_1).f1) ((rd_T30 t282 x14_1).f2) ((rd_T30 t282 x14_1).f3) ((rd_T30 t282 x49_3).f0) ((rd_T30 t282 x49_3).f1) ((rd_T30 t282 x49_3).f2) ((rd_T30 t282 x49_3).f3)) = some r := by rw [if_pos rfl] at H; exact H
                    clear H
                    have H := H1
                    clear H1
                    have H' := Aside0.mk H
                    clear H
                    have hnb50 := NB286_291.out
                    have hnc50 := NB291_286.out
                    have hcz51_0 : w40.cell? ⟨gb286, 0, none⟩ = some (.int .u32 ((rd_T30 t282 x14_1).f0)) := (blk_cell BK286.out 0).trans rfl
                    have hcz51_1 : w40.cell? ⟨gb286, 1, none⟩ = some (.string ((rd_T30 t282 x14_1).f1)) := (blk_cell BK286.out 1).trans rfl
                    have hcz51_2 : w40.cell? ⟨gb286, 2, none⟩ = some (.int .u8 ((rd_T30 t282 x14_1).f2)) := (blk_cell BK286.out 2).trans rfl
                    have hcz51_3 : w40.cell? ⟨gb286, 3, none⟩ = some (.int .u32 ((rd_T30 t282 x14_1).f3)) := (blk_cell BK286.out 3).trans rfl
                    have hfz51_0 := blk_frozen BK286.out 0
                    have hfz51_1 := blk_frozen BK286.out 1
                    have hfz51_2 := blk_frozen BK286.out 2
                    have hfz51_3 := blk_frozen BK286.out 3
                    have hcz52_0 : w40.cell? ⟨gb291, 0, none⟩ = some (.int .u32 0) := (blk_cell BK291.out 0).trans rfl
                    have hcz52_1 : w40.cell? ⟨gb291, 1, none⟩ = some (.string (⟨#[]⟩ : ByteArray)) := (blk_cell BK291.out 1).trans rfl
                    have hcz52_2 : w40.cell? ⟨gb291, 2, none⟩ = some (.int .u8 0) := (blk_cell BK291.out 2).trans rfl
                    have hcz52_3 : w40.cell? ⟨gb291, 3, none⟩ = some (.int .u32 0) := (blk_cell BK291.out 3).trans rfl
                    have hfz52_0 := blk_frozen BK291.out 0
                    have hfz52_1 := blk_frozen BK291.out 1
                    have hfz52_2 := blk_frozen BK291.out 2
                    have hfz52_3 := blk_frozen BK291.out 3
                    go_wp2_with (first | ((with_reducible refine gate_callee (f := 12) rfl ?_); refine goesL_ (some 58) rfl rfl Tryz.func12 (by kernel_rfl) rfl #[.slice (some ad285) t282.length co7, .int .u32 ((rd_T30 t282 x14_1).f0), .int .u32 ((rd_T30 t282 x49_3).f0)] rfl (by (try simp only [List.map_toArray, List.map_cons, List.map_nil]); first | done | rfl | (simp only [List.length_drop, List.length_take]; rfl)) ?_; (with_reducible refine (chart_Chart_Within.calls k3 _ _ t282 ((rd_T30 t282 x14_1).f0) ((rd_T30 t282 x49_3).f0) true _ ?side1 ?side2 A43.out).mono ?_); (case side1 => refine (Kd.R_reads' (e := 30) (base := w.heap.size) (ok := fun k_ => (k_ ≠ gb286 ∧ k_ ≠ gb291)) (n := t282.length) (c := co7) ?_).2.2; exact (by (with_reducible repeat (first | apply Kd.R_alloc | apply Kd.R_drewN | apply Kd.R_drew)); exact (Kd.R_mono (Kd.R_far (p := ⟨gb291, 3, none⟩) (Kd.R_far (p := ⟨gb291, 2, none⟩) (Kd.R_far (p := ⟨gb291, 1, none⟩) (Kd.R_far (p := ⟨gb291, 0, none⟩) (Kd.R_mono HO_3.out (fun k_ hk => (⟨hk, hk.2⟩ : _ ∧ k_ ≠ gb291))) (fun _ hk => hk.2) (.int .u32 ((rd_T30 t282 x49_3).f0))) (fun _ hk => hk.2) (.string ((rd_T30 t282 x49_3).f1))) (fun _ hk => hk.2) (.int .u8 ((rd_T30 t282 x49_3).f2))) (fun _ hk => hk.2) (.int .u32 ((rd_T30 t282 x49_3).f3))) (fun _ h_ => h_.1)))); (case side2 => exact (Kd.R_reads' HO_3.out).2.1); rintro e w53 ⟨rfl, hb⟩; refine ⟨_, rfl, ?_⟩; have n0_ := Aside0.mk (Kd.R_below (by (with_reducible repeat (first | apply Kd.R_alloc | apply Kd.R_drewN | apply Kd.R_drew)); exact (Kd.R_mono (Kd.R_far (p := ⟨gb291, 3, none⟩) (Kd.R_far (p := ⟨gb291, 2, none⟩) (Kd.R_far (p := ⟨gb291, 1, none⟩) (Kd.R_far (p := ⟨gb291, 0, none⟩) (Kd.R_mono HO_3.out (fun k_ hk => (⟨hk, hk.2⟩ : _ ∧ k_ ≠ gb291))) (fun _ hk => hk.2) (.int .u32 ((rd_T30 t282 x49_3).f0))) (fun _ hk => hk.2) (.string ((rd_T30 t282 x49_3).f1))) (fun _ hk => hk.2) (.int .u8 ((rd_T30 t282 x49_3).f2))) (fun _ hk => hk.2) (.int .u32 ((rd_T30 t282 x49_3).f3))) (fun _ h_ => h_.1))) hb); have n1_ := Aside0.mk (Kd.R_below (by (with_reducible repeat (first | apply Kd.R_alloc | apply Kd.R_drewN | apply Kd.R_drew)); exact (Kd.R_mono (Kd.R_far (p := ⟨gb291, 3, none⟩) (Kd.R_far (p := ⟨gb291, 2, none⟩) (Kd.R_far (p := ⟨gb291, 1, none⟩) (Kd.R_far (p := ⟨gb291, 0, none⟩) (Kd.R_mono HO_12.out (fun k_ hk => (⟨hk, hk.2⟩ : _ ∧ k_ ≠ gb291))) (fun _ hk => hk.2) (.int .u32 ((rd_T30 t282 x49_3).f0))) (fun _ hk => hk.2) (.string ((rd_T30 t282 x49_3).f1))) (fun _ hk => hk.2) (.int .u8 ((rd_T30 t282 x49_3).f2))) (fun _ hk => hk.2) (.int .u32 ((rd_T30 t282 x49_3).f3))) (fun _ h_ => h_.1))) hb); have n2_ := Aside0.mk (Kd.R_below (by (with_reducible repeat (first | apply Kd.R_alloc | apply Kd.R_drewN | apply Kd.R_drew)); exact (Kd.R_mono (Kd.R_far (p := ⟨gb291, 3, none⟩) (Kd.R_far (p := ⟨gb291, 2, none⟩) (Kd.R_far (p := ⟨gb291, 1, none⟩) (Kd.R_far (p := ⟨gb291, 0, none⟩) (Kd.R_mono HO_47.out (fun k_ hk => (⟨hk, hk.2⟩ : _ ∧ k_ ≠ gb291))) (fun _ hk => hk.2) (.int .u32 ((rd_T30 t282 x49_3).f0))) (fun _ hk => hk.2) (.string ((rd_T30 t282 x49_3).f1))) (fun _ hk => hk.2) (.int .u8 ((rd_T30 t282 x49_3).f2))) (fun _ hk => hk.2) (.int .u32 ((rd_T30 t282 x49_3).f3))) (fun _ h_ => h_.1))) hb); have n3_ := Aside0.mk (blk_below (g := gb286) (o := .cells #[.int .u32 ((rd_T30 t282 x14_1).f0), .string ((rd_T30 t282 x14_1).f1), .int .u8 ((rd_T30 t282 x14_1).f2), .int .u32 ((rd_T30 t282 x14_1).f3)] 30 (0, 0)) (by (with_reducible repeat (first | refine blk_drewN ?_ _ | refine blk_drew ?_ | refine blk_alloc ?_ _)); refine blk_far ?_ NB286_291.out _; (with_reducible repeat (first | refine blk_drewN ?_ _ | refine blk_drew ?_ | refine blk_alloc ?_ _)); refine blk_far ?_ NB286_291.out _; (with_reducible repeat (first | refine blk_drewN ?_ _ | refine blk_drew ?_ | refine blk_alloc ?_ _)); refine blk_far ?_ NB286_291.out _; (with_reducible repeat (first | refine blk_drewN ?_ _ | refine blk_drew ?_ | refine blk_alloc ?_ _)); refine blk_far ?_ NB286_291.out _; (with_reducible repeat (first | refine blk_drewN ?_ _ | refine blk_drew ?_ | refine blk_alloc ?_ _)); exact BK286.out) hb); have n4_ := Aside0.mk (blk_below (g := gb291) (o := .cells #[.int .u32 ((rd_T30 t282 x49_3).f0), .string ((rd_T30 t282 x49_3).f1), .int .u8 ((rd_T30 t282 x49_3).f2), .int .u32 ((rd_T30 t282 x49_3).f3)] 30 (0, 0)) (by (with_reducible repeat (first | refine blk_drewN ?_ _ | refine blk_drew ?_ | refine blk_alloc ?_ _)); refine blk_put (cs := #[.int .u32 ((rd_T30 t282 x49_3).f0), .string ((rd_T30 t282 x49_3).f1), .int .u8 ((rd_T30 t282 x49_3).f2), .int .u32 0]) ?_ 3 _ rfl; (with_reducible repeat (first | refine blk_drewN ?_ _ | refine blk_drew ?_ | refine blk_alloc ?_ _)); refine blk_put (cs := #[.int .u32 ((rd_T30 t282 x49_3).f0), .string ((rd_T30 t282 x49_3).f1), .int .u8 0, .int .u32 0]) ?_ 2 _ rfl; (with_reducible repeat (first | refine blk_drewN ?_ _ | refine blk_drew ?_ | refine blk_alloc ?_ _)); refine blk_put (cs := #[.int .u32 ((rd_T30 t282 x49_3).f0), .string (⟨#[]⟩ : ByteArray), .int .u8 0, .int .u32 0]) ?_ 1 _ rfl; (with_reducible repeat (first | refine blk_drewN ?_ _ | refine blk_drew ?_ | refine blk_alloc ?_ _)); refine blk_put (cs := #[.int .u32 0, .string (⟨#[]⟩ : ByteArray), .int .u8 0, .int .u32 0]) ?_ 0 _ rfl; (with_reducible repeat (first | refine blk_drewN ?_ _ | refine blk_drew ?_ | refine blk_alloc ?_ _)); exact BK291.out) hb); have n5_ := Aside0.mk (below_step (by repeat (first | (with_reducible first | exact HB.out | apply below_alloc | apply pw_below_drewN | apply below_drew1 | refine below_set ?_ GE286.out | refine below_set ?_ GE291.out) | exact HB.out)) hb); clear HO_3; clear HO_12; clear HO_47; clear BK286; clear BK291; clear HB; have HO_3 := n0_; have HO_12 := n1_; have HO_47 := n2_; have BK286 := n3_; have BK291 := n4_; have HB := n5_; clear n0_ n1_ n2_ n3_ n4_ n5_; (try clear hb); (try clear hb2); (try clear hk); (try clear hi); have hcz54_0 : w53.cell? ⟨gb286, 0, none⟩ = some (.int .u32 ((rd_T30 t282 x14_1).f0)) := (blk_cell BK286.out 0).trans rfl; have hcz54_1 : w53.cell? ⟨gb286, 1, none⟩ = some (.string ((rd_T30 t282 x14_1).f1)) := (blk_cell BK286.out 1).trans rfl; have hcz54_2 : w53.cell? ⟨gb286, 2, none⟩ = some (.int .u8 ((rd_T30 t282 x14_1).f2)) := (blk_cell BK286.out 2).trans rfl; have hcz54_3 : w53.cell? ⟨gb286, 3, none⟩ = some (.int .u32 ((rd_T30 t282 x14_1).f3)) := (blk_cell BK286.out 3).trans rfl; have hfz54_0 := blk_frozen BK286.out 0; have hfz54_1 := blk_frozen BK286.out 1; have hfz54_2 := blk_frozen BK286.out 2; have hfz54_3 := blk_frozen BK286.out 3; have hcz55_0 : w53.cell? ⟨gb291, 0, none⟩ = some (.int .u32 ((rd_T30 t282 x49_3).f0)) := (blk_cell BK291.out 0).trans rfl; have hcz55_1 : w53.cell? ⟨gb291, 1, none⟩ = some (.string ((rd_T30 t282 x49_3).f1)) := (blk_cell BK291.out 1).trans rfl; have hcz55_2 : w53.cell? ⟨gb291, 2, none⟩ = some (.int .u8 ((rd_T30 t282 x49_3).f2)) := (blk_cell BK291.out 2).trans rfl; have hcz55_3 : w53.cell? ⟨gb291, 3, none⟩ = some (.int .u32 ((rd_T30 t282 x49_3).f3)) := (blk_cell BK291.out 3).trans rfl; have hfz55_0 := blk_frozen BK291.out 0; have hfz55_1 := blk_frozen BK291.out 1; have hfz55_2 := blk_frozen BK291.out 2; have hfz55_3 := blk_frozen BK291.out 3) | (go_at_call 12; (with_reducible refine (chart_Chart_Within.calls k3 _ _ t282 ((rd_T30 t282 x14_1).f0) ((rd_T30 t282 x49_3).f0) true _ ?side1 ?side2 A46.out).mono ?_); (case side1 => repeat (first | exact (Kd.R_reads' HO_3.out).2.2 | (with_reducible refine Kd.C_alloc ?_ _) | (with_reducible refine Kd.C_drewN ?_ _) | (with_reducible refine Kd.C_drew ?_))); (case side2 => exact (Kd.R_reads' HO_3.out).2.1); rintro e w56 ⟨rfl, hb⟩; have n0_ := Aside0.mk (Kd.R_below (by (with_reducible repeat (first | apply Kd.R_alloc | apply Kd.R_drewN | apply Kd.R_drew)); exact HO_3.out) hb); have n1_ := Aside0.mk (Kd.R_below (by (with_reducible repeat (first | apply Kd.R_alloc | apply Kd.R_drewN | apply Kd.R_drew)); exact HO_12.out) hb); have n2_ := Aside0.mk (Kd.R_below (by (with_reducible repeat (first | apply Kd.R_alloc | apply Kd.R_drewN | apply Kd.R_drew)); exact HO_47.out) hb); have n3_ := Aside0.mk (blk_below (g := gb286) (o := .cells #[.int .u32 ((rd_T30 t282 x14_1).f0), .string ((rd_T30 t282 x14_1).f1), .int .u8 ((rd_T30 t282 x14_1).f2), .int .u32 ((rd_T30 t282 x14_1).f3)] 30 (0, 0)) (by (with_reducible repeat (first | refine blk_drewN ?_ _ | refine blk_drew ?_ | refine blk_alloc ?_ _)); exact BK286.out) hb); have n4_ := Aside0.mk (blk_below (g := gb291) (o := .cells #[.int .u32 ((rd_T30 t282 x49_3).f0), .string ((rd_T30 t282 x49_3).f1), .int .u8 ((rd_T30 t282 x49_3).f2), .int .u32 ((rd_T30 t282 x49_3).f3)] 30 (0, 0)) (by (with_reducible repeat (first | refine blk_drewN ?_ _ | refine blk_drew ?_ | refine blk_alloc ?_ _)); exact BK291.out) hb); have n5_ := Aside0.mk (below_step (by repeat (first | (with_reducible first | exact HB.out | apply below_alloc | apply pw_below_drewN | apply below_drew1 | refine below_set ?_ GE286.out | refine below_set ?_ GE291.out) | exact HB.out)) hb); clear HO_3; clear HO_12; clear HO_47; clear BK286; clear BK291; clear HB; have HO_3 := n0_; have HO_12 := n1_; have HO_47 := n2_; have BK286 := n3_; have BK291 := n4_; have HB := n5_; clear n0_ n1_ n2_ n3_ n4_ n5_; (try clear hb); (try clear hb2); (try clear hk); (try clear hi); have hcz57_0 : w56.cell? ⟨gb291, 0, none⟩ = some (.int .u32 ((rd_T30 t282 x49_3).f0)) := (blk_cell BK291.out 0).trans rfl; have hcz57_1 : w56.cell? ⟨gb291, 1, none⟩ = some (.string ((rd_T30 t282 x49_3).f1)) := (blk_cell BK291.out 1).trans rfl; have hcz57_2 : w56.cell? ⟨gb291, 2, none⟩ = some (.int .u8 ((rd_T30 t282 x49_3).f2)) := (blk_cell BK291.out 2).trans rfl; have hcz57_3 : w56.cell? ⟨gb291, 3, none⟩ = some (.int .u32 ((rd_T30 t282 x49_3).f3)) := (blk_cell BK291.out 3).trans rfl; have hfz57_0 := blk_frozen BK291.out 0; have hfz57_1 := blk_frozen BK291.out 1; have hfz57_2 := blk_frozen BK291.out 2; have hfz57_3 := blk_frozen BK291.out 3; have hcz58_0 : w56.cell? ⟨gb286, 0, none⟩ = some (.int .u32 ((rd_T30 t282 x14_1).f0)) := (blk_cell BK286.out 0).trans rfl; have hcz58_1 : w56.cell? ⟨gb286, 1, none⟩ = some (.string ((rd_T30 t282 x14_1).f1)) := (blk_cell BK286.out 1).trans rfl; have hcz58_2 : w56.cell? ⟨gb286, 2, none⟩ = some (.int .u8 ((rd_T30 t282 x14_1).f2)) := (blk_cell BK286.out 2).trans rfl; have hcz58_3 : w56.cell? ⟨gb286, 3, none⟩ = some (.int .u32 ((rd_T30 t282 x14_1).f3)) := (blk_cell BK286.out 3).trans rfl; have hfz58_0 := blk_frozen BK286.out 0; have hfz58_1 := blk_frozen BK286.out 1; have hfz58_2 := blk_frozen BK286.out 2; have hfz58_3 := blk_frozen BK286.out 3) | (go_at_call 12; (with_reducible refine (chart_Chart_Within.calls k3 _ _ t282 ((rd_T30 t282 x49_3).f0) ((rd_T30 t282 x14_1).f0) true _ ?side1 ?side2 A48.out).mono ?_); (case side1 => repeat (first | exact (Kd.R_reads' HO_3.out).2.2 | (with_reducible refine Kd.C_alloc ?_ _) | (with_reducible refine Kd.C_drewN ?_ _) | (with_reducible refine Kd.C_drew ?_))); (case side2 => exact (Kd.R_reads' HO_3.out).2.1); rintro e w59 ⟨rfl, hb⟩; have n0_ := Aside0.mk (Kd.R_below (by (with_reducible repeat (first | apply Kd.R_alloc | apply Kd.R_drewN | apply Kd.R_drew)); exact HO_3.out) hb); have n1_ := Aside0.mk (Kd.R_below (by (with_reducible repeat (first | apply Kd.R_alloc | apply Kd.R_drewN | apply Kd.R_drew)); exact HO_12.out) hb); have n2_ := Aside0.mk (Kd.R_below (by (with_reducible repeat (first | apply Kd.R_alloc | apply Kd.R_drewN | apply Kd.R_drew)); exact HO_47.out) hb); have n3_ := Aside0.mk (blk_below (g := gb286) (o := .cells #[.int .u32 ((rd_T30 t282 x14_1).f0), .string ((rd_T30 t282 x14_1).f1), .int .u8 ((rd_T30 t282 x14_1).f2), .int .u32 ((rd_T30 t282 x14_1).f3)] 30 (0, 0)) (by (with_reducible repeat (first | refine blk_drewN ?_ _ | refine blk_drew ?_ | refine blk_alloc ?_ _)); exact BK286.out) hb); have n4_ := Aside0.mk (blk_below (g := gb291) (o := .cells #[.int .u32 ((rd_T30 t282 x49_3).f0), .string ((rd_T30 t282 x49_3).f1), .int .u8 ((rd_T30 t282 x49_3).f2), .int .u32 ((rd_T30 t282 x49_3).f3)] 30 (0, 0)) (by (with_reducible repeat (first | refine blk_drewN ?_ _ | refine blk_drew ?_ | refine blk_alloc ?_ _)); exact BK291.out) hb); have n5_ := Aside0.mk (below_step (by repeat (first | (with_reducible first | exact HB.out | apply below_alloc | apply pw_below_drewN | apply below_drew1 | refine below_set ?_ GE286.out | refine below_set ?_ GE291.out) | exact HB.out)) hb); clear HO_3; clear HO_12; clear HO_47; clear BK286; clear BK291; clear HB; have HO_3 := n0_; have HO_12 := n1_; have HO_47 := n2_; have BK286 := n3_; have BK291 := n4_; have HB := n5_; clear n0_ n1_ n2_ n3_ n4_ n5_; (try clear hb); (try clear hb2); (try clear hk); (try clear hi); have hcz60_0 : w59.cell? ⟨gb286, 0, none⟩ = some (.int .u32 ((rd_T30 t282 x14_1).f0)) := (blk_cell BK286.out 0).trans rfl; have hcz60_1 : w59.cell? ⟨gb286, 1, none⟩ = some (.string ((rd_T30 t282 x14_1).f1)) := (blk_cell BK286.out 1).trans rfl; have hcz60_2 : w59.cell? ⟨gb286, 2, none⟩ = some (.int .u8 ((rd_T30 t282 x14_1).f2)) := (blk_cell BK286.out 2).trans rfl; have hcz60_3 : w59.cell? ⟨gb286, 3, none⟩ = some (.int .u32 ((rd_T30 t282 x14_1).f3)) := (blk_cell BK286.out 3).trans rfl; have hfz60_0 := blk_frozen BK286.out 0; have hfz60_1 := blk_frozen BK286.out 1; have hfz60_2 := blk_frozen BK286.out 2; have hfz60_3 := blk_frozen BK286.out 3; have hcz61_0 : w59.cell? ⟨gb291, 0, none⟩ = some (.int .u32 ((rd_T30 t282 x49_3).f0)) := (blk_cell BK291.out 0).trans rfl; have hcz61_1 : w59.cell? ⟨gb291, 1, none⟩ = some (.string ((rd_T30 t282 x49_3).f1)) := (blk_cell BK291.out 1).trans rfl; have hcz61_2 : w59.cell? ⟨gb291, 2, none⟩ = some (.int .u8 ((rd_T30 t282 x49_3).f2)) := (blk_cell BK291.out 2).trans rfl; have hcz61_3 : w59.cell? ⟨gb291, 3, none⟩ = some (.int .u32 ((rd_T30 t282 x49_3).f3)) := (blk_cell BK291.out 3).trans rfl; have hfz61_0 := blk_frozen BK291.out 0; have hfz61_1 := blk_frozen BK291.out 1; have hfz61_2 := blk_frozen BK291.out 2; have hfz61_3 := blk_frozen BK291.out 3))
                    go_meet
                    case rel => exact ⟨_, ((((rd_T30 t282 x14_1).f0) != ((rd_T30 t282 x49_3).f0))), (by first | rfl | (simp; done) | (simp [*]; done)), H', ⟨by have := HK1.out; have := HJ10.out; have := HK3.out; first | omega | exact Nat.le_refl _⟩, ⟨by (with_reducible repeat (first | apply Kd.R_alloc | apply Kd.R_drewN | apply Kd.R_drew)); exact HO_3.out⟩, ⟨by (with_reducible repeat (first | apply Kd.R_alloc | apply Kd.R_drewN | apply Kd.R_drew)); exact HO_12.out⟩, ⟨by (with_reducible repeat (first | apply Kd.R_alloc | apply Kd.R_drewN | apply Kd.R_drew)); exact HO_47.out⟩, ⟨by (with_reducible repeat (first | refine blk_drewN ?_ _ | refine blk_drew ?_ | refine blk_alloc ?_ _)); exact BK286.out⟩, ⟨by (with_reducible repeat (first | refine blk_drewN ?_ _ | refine blk_drew ?_ | refine blk_alloc ?_ _)); exact BK291.out⟩, ⟨by repeat (first | (with_reducible first | exact HB.out | apply below_alloc | apply pw_below_drewN | apply below_drew1 | refine below_set ?_ GE286.out | refine below_set ?_ GE291.out) | exact HB.out)⟩⟩
                   ·replace c49 := Bool.eq_false_iff.mpr c49
                    subst c49
                    have H1 : (transposallaw06_ChartTree.j3 k3 t282 t282 (t282.length : Int) x14_1 t282 (t282.length : Int) x49_3 false ((rd_T30 t282 x14_1).f0) ((rd_T30 t282 x14_1).f1) ((rd_T30 t282 x14_1).f2) ((rd_T30 t282 x14_1).f3) ((rd_T30 t282 x49_3).f0) ((rd_T30 t282 x49_3).f1) ((rd_T30 t282 x49_3).f2) ((rd_T30 t282 x49_3).f3)) = some r := by rw [if_neg (show ¬ (false = true) by decide)] at H; exact H
                    clear H
                    have H := H1
                    clear H1
                    have H' := Aside0.mk H
                    clear H
                    have hnb62 := NB286_291.out
                    have hnc62 := NB291_286.out
                    have hcz63_0 : w40.cell? ⟨gb286, 0, none⟩ = some (.int .u32 ((rd_T30 t282 x14_1).f0)) := (blk_cell BK286.out 0).trans rfl
                    have hcz63_1 : w40.cell? ⟨gb286, 1, none⟩ = some (.string ((rd_T30 t282 x14_1).f1)) := (blk_cell BK286.out 1).trans rfl
                    have hcz63_2 : w40.cell? ⟨gb286, 2, none⟩ = some (.int .u8 ((rd_T30 t282 x14_1).f2)) := (blk_cell BK286.out 2).trans rfl
                    have hcz63_3 : w40.cell? ⟨gb286, 3, none⟩ = some (.int .u32 ((rd_T30 t282 x14_1).f3)) := (blk_cell BK286.out 3).trans rfl
                    have hfz63_0 := blk_frozen BK286.out 0
                    have hfz63_1 := blk_frozen BK286.out 1
                    have hfz63_2 := blk_frozen BK286.out 2
                    have hfz63_3 := blk_frozen BK286.out 3
                    have hcz64_0 : w40.cell? ⟨gb291, 0, none⟩ = some (.int .u32 0) := (blk_cell BK291.out 0).trans rfl
                    have hcz64_1 : w40.cell? ⟨gb291, 1, none⟩ = some (.string (⟨#[]⟩ : ByteArray)) := (blk_cell BK291.out 1).trans rfl
                    have hcz64_2 : w40.cell? ⟨gb291, 2, none⟩ = some (.int .u8 0) := (blk_cell BK291.out 2).trans rfl
                    have hcz64_3 : w40.cell? ⟨gb291, 3, none⟩ = some (.int .u32 0) := (blk_cell BK291.out 3).trans rfl
                    have hfz64_0 := blk_frozen BK291.out 0
                    have hfz64_1 := blk_frozen BK291.out 1
                    have hfz64_2 := blk_frozen BK291.out 2
                    have hfz64_3 := blk_frozen BK291.out 3
                    go_wp2_with (first | ((with_reducible refine gate_callee (f := 12) rfl ?_); refine goesL_ (some 58) rfl rfl Tryz.func12 (by kernel_rfl) rfl #[.slice (some ad285) t282.length co7, .int .u32 ((rd_T30 t282 x14_1).f0), .int .u32 ((rd_T30 t282 x49_3).f0)] rfl (by (try simp only [List.map_toArray, List.map_cons, List.map_nil]); first | done | rfl | (simp only [List.length_drop, List.length_take]; rfl)) ?_; (with_reducible refine (chart_Chart_Within.calls k3 _ _ t282 ((rd_T30 t282 x14_1).f0) ((rd_T30 t282 x49_3).f0) true _ ?side1 ?side2 A43.out).mono ?_); (case side1 => refine (Kd.R_reads' (e := 30) (base := w.heap.size) (ok := fun k_ => (k_ ≠ gb286 ∧ k_ ≠ gb291)) (n := t282.length) (c := co7) ?_).2.2; exact (by (with_reducible repeat (first | apply Kd.R_alloc | apply Kd.R_drewN | apply Kd.R_drew)); exact (Kd.R_mono (Kd.R_far (p := ⟨gb291, 3, none⟩) (Kd.R_far (p := ⟨gb291, 2, none⟩) (Kd.R_far (p := ⟨gb291, 1, none⟩) (Kd.R_far (p := ⟨gb291, 0, none⟩) (Kd.R_mono HO_3.out (fun k_ hk => (⟨hk, hk.2⟩ : _ ∧ k_ ≠ gb291))) (fun _ hk => hk.2) (.int .u32 ((rd_T30 t282 x49_3).f0))) (fun _ hk => hk.2) (.string ((rd_T30 t282 x49_3).f1))) (fun _ hk => hk.2) (.int .u8 ((rd_T30 t282 x49_3).f2))) (fun _ hk => hk.2) (.int .u32 ((rd_T30 t282 x49_3).f3))) (fun _ h_ => h_.1)))); (case side2 => exact (Kd.R_reads' HO_3.out).2.1); rintro e w65 ⟨rfl, hb⟩; refine ⟨_, rfl, ?_⟩; have n0_ := Aside0.mk (Kd.R_below (by (with_reducible repeat (first | apply Kd.R_alloc | apply Kd.R_drewN | apply Kd.R_drew)); exact (Kd.R_mono (Kd.R_far (p := ⟨gb291, 3, none⟩) (Kd.R_far (p := ⟨gb291, 2, none⟩) (Kd.R_far (p := ⟨gb291, 1, none⟩) (Kd.R_far (p := ⟨gb291, 0, none⟩) (Kd.R_mono HO_3.out (fun k_ hk => (⟨hk, hk.2⟩ : _ ∧ k_ ≠ gb291))) (fun _ hk => hk.2) (.int .u32 ((rd_T30 t282 x49_3).f0))) (fun _ hk => hk.2) (.string ((rd_T30 t282 x49_3).f1))) (fun _ hk => hk.2) (.int .u8 ((rd_T30 t282 x49_3).f2))) (fun _ hk => hk.2) (.int .u32 ((rd_T30 t282 x49_3).f3))) (fun _ h_ => h_.1))) hb); have n1_ := Aside0.mk (Kd.R_below (by (with_reducible repeat (first | apply Kd.R_alloc | apply Kd.R_drewN | apply Kd.R_drew)); exact (Kd.R_mono (Kd.R_far (p := ⟨gb291, 3, none⟩) (Kd.R_far (p := ⟨gb291, 2, none⟩) (Kd.R_far (p := ⟨gb291, 1, none⟩) (Kd.R_far (p := ⟨gb291, 0, none⟩) (Kd.R_mono HO_12.out (fun k_ hk => (⟨hk, hk.2⟩ : _ ∧ k_ ≠ gb291))) (fun _ hk => hk.2) (.int .u32 ((rd_T30 t282 x49_3).f0))) (fun _ hk => hk.2) (.string ((rd_T30 t282 x49_3).f1))) (fun _ hk => hk.2) (.int .u8 ((rd_T30 t282 x49_3).f2))) (fun _ hk => hk.2) (.int .u32 ((rd_T30 t282 x49_3).f3))) (fun _ h_ => h_.1))) hb); have n2_ := Aside0.mk (Kd.R_below (by (with_reducible repeat (first | apply Kd.R_alloc | apply Kd.R_drewN | apply Kd.R_drew)); exact (Kd.R_mono (Kd.R_far (p := ⟨gb291, 3, none⟩) (Kd.R_far (p := ⟨gb291, 2, none⟩) (Kd.R_far (p := ⟨gb291, 1, none⟩) (Kd.R_far (p := ⟨gb291, 0, none⟩) (Kd.R_mono HO_47.out (fun k_ hk => (⟨hk, hk.2⟩ : _ ∧ k_ ≠ gb291))) (fun _ hk => hk.2) (.int .u32 ((rd_T30 t282 x49_3).f0))) (fun _ hk => hk.2) (.string ((rd_T30 t282 x49_3).f1))) (fun _ hk => hk.2) (.int .u8 ((rd_T30 t282 x49_3).f2))) (fun _ hk => hk.2) (.int .u32 ((rd_T30 t282 x49_3).f3))) (fun _ h_ => h_.1))) hb); have n3_ := Aside0.mk (blk_below (g := gb286) (o := .cells #[.int .u32 ((rd_T30 t282 x14_1).f0), .string ((rd_T30 t282 x14_1).f1), .int .u8 ((rd_T30 t282 x14_1).f2), .int .u32 ((rd_T30 t282 x14_1).f3)] 30 (0, 0)) (by (with_reducible repeat (first | refine blk_drewN ?_ _ | refine blk_drew ?_ | refine blk_alloc ?_ _)); refine blk_far ?_ NB286_291.out _; (with_reducible repeat (first | refine blk_drewN ?_ _ | refine blk_drew ?_ | refine blk_alloc ?_ _)); refine blk_far ?_ NB286_291.out _; (with_reducible repeat (first | refine blk_drewN ?_ _ | refine blk_drew ?_ | refine blk_alloc ?_ _)); refine blk_far ?_ NB286_291.out _; (with_reducible repeat (first | refine blk_drewN ?_ _ | refine blk_drew ?_ | refine blk_alloc ?_ _)); refine blk_far ?_ NB286_291.out _; (with_reducible repeat (first | refine blk_drewN ?_ _ | refine blk_drew ?_ | refine blk_alloc ?_ _)); exact BK286.out) hb); have n4_ := Aside0.mk (blk_below (g := gb291) (o := .cells #[.int .u32 ((rd_T30 t282 x49_3).f0), .string ((rd_T30 t282 x49_3).f1), .int .u8 ((rd_T30 t282 x49_3).f2), .int .u32 ((rd_T30 t282 x49_3).f3)] 30 (0, 0)) (by (with_reducible repeat (first | refine blk_drewN ?_ _ | refine blk_drew ?_ | refine blk_alloc ?_ _)); refine blk_put (cs := #[.int .u32 ((rd_T30 t282 x49_3).f0), .string ((rd_T30 t282 x49_3).f1), .int .u8 ((rd_T30 t282 x49_3).f2), .int .u32 0]) ?_ 3 _ rfl; (with_reducible repeat (first | refine blk_drewN ?_ _ | refine blk_drew ?_ | refine blk_alloc ?_ _)); refine blk_put (cs := #[.int .u32 ((rd_T30 t282 x49_3).f0), .string ((rd_T30 t282 x49_3).f1), .int .u8 0, .int .u32 0]) ?_ 2 _ rfl; (with_reducible repeat (first | refine blk_drewN ?_ _ | refine blk_drew ?_ | refine blk_alloc ?_ _)); refine blk_put (cs := #[.int .u32 ((rd_T30 t282 x49_3).f0), .string (⟨#[]⟩ : ByteArray), .int .u8 0, .int .u32 0]) ?_ 1 _ rfl; (with_reducible repeat (first | refine blk_drewN ?_ _ | refine blk_drew ?_ | refine blk_alloc ?_ _)); refine blk_put (cs := #[.int .u32 0, .string (⟨#[]⟩ : ByteArray), .int .u8 0, .int .u32 0]) ?_ 0 _ rfl; (with_reducible repeat (first | refine blk_drewN ?_ _ | refine blk_drew ?_ | refine blk_alloc ?_ _)); exact BK291.out) hb); have n5_ := Aside0.mk (below_step (by repeat (first | (with_reducible first | exact HB.out | apply below_alloc | apply pw_below_drewN | apply below_drew1 | refine below_set ?_ GE286.out | refine below_set ?_ GE291.out) | exact HB.out)) hb); clear HO_3; clear HO_12; clear HO_47; clear BK286; clear BK291; clear HB; have HO_3 := n0_; have HO_12 := n1_; have HO_47 := n2_; have BK286 := n3_; have BK291 := n4_; have HB := n5_; clear n0_ n1_ n2_ n3_ n4_ n5_; (try clear hb); (try clear hb2); (try clear hk); (try clear hi); have hcz66_0 : w65.cell? ⟨gb286, 0, none⟩ = some (.int .u32 ((rd_T30 t282 x14_1).f0)) := (blk_cell BK286.out 0).trans rfl; have hcz66_1 : w65.cell? ⟨gb286, 1, none⟩ = some (.string ((rd_T30 t282 x14_1).f1)) := (blk_cell BK286.out 1).trans rfl; have hcz66_2 : w65.cell? ⟨gb286, 2, none⟩ = some (.int .u8 ((rd_T30 t282 x14_1).f2)) := (blk_cell BK286.out 2).trans rfl; have hcz66_3 : w65.cell? ⟨gb286, 3, none⟩ = some (.int .u32 ((rd_T30 t282 x14_1).f3)) := (blk_cell BK286.out 3).trans rfl; have hfz66_0 := blk_frozen BK286.out 0; have hfz66_1 := blk_frozen BK286.out 1; have hfz66_2 := blk_frozen BK286.out 2; have hfz66_3 := blk_frozen BK286.out 3; have hcz67_0 : w65.cell? ⟨gb291, 0, none⟩ = some (.int .u32 ((rd_T30 t282 x49_3).f0)) := (blk_cell BK291.out 0).trans rfl; have hcz67_1 : w65.cell? ⟨gb291, 1, none⟩ = some (.string ((rd_T30 t282 x49_3).f1)) := (blk_cell BK291.out 1).trans rfl; have hcz67_2 : w65.cell? ⟨gb291, 2, none⟩ = some (.int .u8 ((rd_T30 t282 x49_3).f2)) := (blk_cell BK291.out 2).trans rfl; have hcz67_3 : w65.cell? ⟨gb291, 3, none⟩ = some (.int .u32 ((rd_T30 t282 x49_3).f3)) := (blk_cell BK291.out 3).trans rfl; have hfz67_0 := blk_frozen BK291.out 0; have hfz67_1 := blk_frozen BK291.out 1; have hfz67_2 := blk_frozen BK291.out 2; have hfz67_3 := blk_frozen BK291.out 3) | (go_at_call 12; (with_reducible refine (chart_Chart_Within.calls k3 _ _ t282 ((rd_T30 t282 x14_1).f0) ((rd_T30 t282 x49_3).f0) true _ ?side1 ?side2 A46.out).mono ?_); (case side1 => repeat (first | exact (Kd.R_reads' HO_3.out).2.2 | (with_reducible refine Kd.C_alloc ?_ _) | (with_reducible refine Kd.C_drewN ?_ _) | (with_reducible refine Kd.C_drew ?_))); (case side2 => exact (Kd.R_reads' HO_3.out).2.1); rintro e w68 ⟨rfl, hb⟩; have n0_ := Aside0.mk (Kd.R_below (by (with_reducible repeat (first | apply Kd.R_alloc | apply Kd.R_drewN | apply Kd.R_drew)); exact HO_3.out) hb); have n1_ := Aside0.mk (Kd.R_below (by (with_reducible repeat (first | apply Kd.R_alloc | apply Kd.R_drewN | apply Kd.R_drew)); exact HO_12.out) hb); have n2_ := Aside0.mk (Kd.R_below (by (with_reducible repeat (first | apply Kd.R_alloc | apply Kd.R_drewN | apply Kd.R_drew)); exact HO_47.out) hb); have n3_ := Aside0.mk (blk_below (g := gb286) (o := .cells #[.int .u32 ((rd_T30 t282 x14_1).f0), .string ((rd_T30 t282 x14_1).f1), .int .u8 ((rd_T30 t282 x14_1).f2), .int .u32 ((rd_T30 t282 x14_1).f3)] 30 (0, 0)) (by (with_reducible repeat (first | refine blk_drewN ?_ _ | refine blk_drew ?_ | refine blk_alloc ?_ _)); exact BK286.out) hb); have n4_ := Aside0.mk (blk_below (g := gb291) (o := .cells #[.int .u32 ((rd_T30 t282 x49_3).f0), .string ((rd_T30 t282 x49_3).f1), .int .u8 ((rd_T30 t282 x49_3).f2), .int .u32 ((rd_T30 t282 x49_3).f3)] 30 (0, 0)) (by (with_reducible repeat (first | refine blk_drewN ?_ _ | refine blk_drew ?_ | refine blk_alloc ?_ _)); exact BK291.out) hb); have n5_ := Aside0.mk (below_step (by repeat (first | (with_reducible first | exact HB.out | apply below_alloc | apply pw_below_drewN | apply below_drew1 | refine below_set ?_ GE286.out | refine below_set ?_ GE291.out) | exact HB.out)) hb); clear HO_3; clear HO_12; clear HO_47; clear BK286; clear BK291; clear HB; have HO_3 := n0_; have HO_12 := n1_; have HO_47 := n2_; have BK286 := n3_; have BK291 := n4_; have HB := n5_; clear n0_ n1_ n2_ n3_ n4_ n5_; (try clear hb); (try clear hb2); (try clear hk); (try clear hi); have hcz69_0 : w68.cell? ⟨gb291, 0, none⟩ = some (.int .u32 ((rd_T30 t282 x49_3).f0)) := (blk_cell BK291.out 0).trans rfl; have hcz69_1 : w68.cell? ⟨gb291, 1, none⟩ = some (.string ((rd_T30 t282 x49_3).f1)) := (blk_cell BK291.out 1).trans rfl; have hcz69_2 : w68.cell? ⟨gb291, 2, none⟩ = some (.int .u8 ((rd_T30 t282 x49_3).f2)) := (blk_cell BK291.out 2).trans rfl; have hcz69_3 : w68.cell? ⟨gb291, 3, none⟩ = some (.int .u32 ((rd_T30 t282 x49_3).f3)) := (blk_cell BK291.out 3).trans rfl; have hfz69_0 := blk_frozen BK291.out 0; have hfz69_1 := blk_frozen BK291.out 1; have hfz69_2 := blk_frozen BK291.out 2; have hfz69_3 := blk_frozen BK291.out 3; have hcz70_0 : w68.cell? ⟨gb286, 0, none⟩ = some (.int .u32 ((rd_T30 t282 x14_1).f0)) := (blk_cell BK286.out 0).trans rfl; have hcz70_1 : w68.cell? ⟨gb286, 1, none⟩ = some (.string ((rd_T30 t282 x14_1).f1)) := (blk_cell BK286.out 1).trans rfl; have hcz70_2 : w68.cell? ⟨gb286, 2, none⟩ = some (.int .u8 ((rd_T30 t282 x14_1).f2)) := (blk_cell BK286.out 2).trans rfl; have hcz70_3 : w68.cell? ⟨gb286, 3, none⟩ = some (.int .u32 ((rd_T30 t282 x14_1).f3)) := (blk_cell BK286.out 3).trans rfl; have hfz70_0 := blk_frozen BK286.out 0; have hfz70_1 := blk_frozen BK286.out 1; have hfz70_2 := blk_frozen BK286.out 2; have hfz70_3 := blk_frozen BK286.out 3) | (go_at_call 12; (with_reducible refine (chart_Chart_Within.calls k3 _ _ t282 ((rd_T30 t282 x49_3).f0) ((rd_T30 t282 x14_1).f0) false _ ?side1 ?side2 A48.out).mono ?_); (case side1 => repeat (first | exact (Kd.R_reads' HO_3.out).2.2 | (with_reducible refine Kd.C_alloc ?_ _) | (with_reducible refine Kd.C_drewN ?_ _) | (with_reducible refine Kd.C_drew ?_))); (case side2 => exact (Kd.R_reads' HO_3.out).2.1); rintro e w71 ⟨rfl, hb⟩; have n0_ := Aside0.mk (Kd.R_below (by (with_reducible repeat (first | apply Kd.R_alloc | apply Kd.R_drewN | apply Kd.R_drew)); exact HO_3.out) hb); have n1_ := Aside0.mk (Kd.R_below (by (with_reducible repeat (first | apply Kd.R_alloc | apply Kd.R_drewN | apply Kd.R_drew)); exact HO_12.out) hb); have n2_ := Aside0.mk (Kd.R_below (by (with_reducible repeat (first | apply Kd.R_alloc | apply Kd.R_drewN | apply Kd.R_drew)); exact HO_47.out) hb); have n3_ := Aside0.mk (blk_below (g := gb286) (o := .cells #[.int .u32 ((rd_T30 t282 x14_1).f0), .string ((rd_T30 t282 x14_1).f1), .int .u8 ((rd_T30 t282 x14_1).f2), .int .u32 ((rd_T30 t282 x14_1).f3)] 30 (0, 0)) (by (with_reducible repeat (first | refine blk_drewN ?_ _ | refine blk_drew ?_ | refine blk_alloc ?_ _)); exact BK286.out) hb); have n4_ := Aside0.mk (blk_below (g := gb291) (o := .cells #[.int .u32 ((rd_T30 t282 x49_3).f0), .string ((rd_T30 t282 x49_3).f1), .int .u8 ((rd_T30 t282 x49_3).f2), .int .u32 ((rd_T30 t282 x49_3).f3)] 30 (0, 0)) (by (with_reducible repeat (first | refine blk_drewN ?_ _ | refine blk_drew ?_ | refine blk_alloc ?_ _)); exact BK291.out) hb); have n5_ := Aside0.mk (below_step (by repeat (first | (with_reducible first | exact HB.out | apply below_alloc | apply pw_below_drewN | apply below_drew1 | refine below_set ?_ GE286.out | refine below_set ?_ GE291.out) | exact HB.out)) hb); clear HO_3; clear HO_12; clear HO_47; clear BK286; clear BK291; clear HB; have HO_3 := n0_; have HO_12 := n1_; have HO_47 := n2_; have BK286 := n3_; have BK291 := n4_; have HB := n5_; clear n0_ n1_ n2_ n3_ n4_ n5_; (try clear hb); (try clear hb2); (try clear hk); (try clear hi)))
                    go_meet
                    case rel => exact ⟨_, (false), (by first | rfl | (simp; done) | (simp [*]; done)), H', ⟨by have := HK1.out; have := HJ10.out; have := HK3.out; first | omega | exact Nat.le_refl _⟩, ⟨by (with_reducible repeat (first | apply Kd.R_alloc | apply Kd.R_drewN | apply Kd.R_drew)); exact HO_3.out⟩, ⟨by (with_reducible repeat (first | apply Kd.R_alloc | apply Kd.R_drewN | apply Kd.R_drew)); exact HO_12.out⟩, ⟨by (with_reducible repeat (first | apply Kd.R_alloc | apply Kd.R_drewN | apply Kd.R_drew)); exact HO_47.out⟩, ⟨by (with_reducible repeat (first | refine blk_drewN ?_ _ | refine blk_drew ?_ | refine blk_alloc ?_ _)); exact BK286.out⟩, ⟨by (with_reducible repeat (first | refine blk_drewN ?_ _ | refine blk_drew ?_ | refine blk_alloc ?_ _)); exact BK291.out⟩, ⟨by repeat (first | (with_reducible first | exact HB.out | apply below_alloc | apply pw_below_drewN | apply below_drew1 | refine below_set ?_ GE286.out | refine below_set ?_ GE291.out) | exact HB.out)⟩⟩
                  ·replace c47 := Bool.eq_false_iff.mpr c47
                   subst c47
                   have H1 : (transposallaw06_ChartTree.j3 k3 t282 t282 (t282.length : Int) x14_1 t282 (t282.length : Int) x49_3 false ((rd_T30 t282 x14_1).f0) ((rd_T30 t282 x14_1).f1) ((rd_T30 t282 x14_1).f2) ((rd_T30 t282 x14_1).f3) ((rd_T30 t282 x49_3).f0) ((rd_T30 t282 x49_3).f1) ((rd_T30 t282 x49_3).f2) ((rd_T30 t282 x49_3).f3)) = some r := by rw [if_neg (show ¬ (false = true) by decide)] at H; exact H
                   clear H
                   have H := H1
                   clear H1
                   have H' := Aside0.mk H
                   clear H
                   have hnb72 := NB286_291.out
                   have hnc72 := NB291_286.out
                   have hcz73_0 : w40.cell? ⟨gb286, 0, none⟩ = some (.int .u32 ((rd_T30 t282 x14_1).f0)) := (blk_cell BK286.out 0).trans rfl
                   have hcz73_1 : w40.cell? ⟨gb286, 1, none⟩ = some (.string ((rd_T30 t282 x14_1).f1)) := (blk_cell BK286.out 1).trans rfl
                   have hcz73_2 : w40.cell? ⟨gb286, 2, none⟩ = some (.int .u8 ((rd_T30 t282 x14_1).f2)) := (blk_cell BK286.out 2).trans rfl
                   have hcz73_3 : w40.cell? ⟨gb286, 3, none⟩ = some (.int .u32 ((rd_T30 t282 x14_1).f3)) := (blk_cell BK286.out 3).trans rfl
                   have hfz73_0 := blk_frozen BK286.out 0
                   have hfz73_1 := blk_frozen BK286.out 1
                   have hfz73_2 := blk_frozen BK286.out 2
                   have hfz73_3 := blk_frozen BK286.out 3
                   have hcz74_0 : w40.cell? ⟨gb291, 0, none⟩ = some (.int .u32 0) := (blk_cell BK291.out 0).trans rfl
                   have hcz74_1 : w40.cell? ⟨gb291, 1, none⟩ = some (.string (⟨#[]⟩ : ByteArray)) := (blk_cell BK291.out 1).trans rfl
                   have hcz74_2 : w40.cell? ⟨gb291, 2, none⟩ = some (.int .u8 0) := (blk_cell BK291.out 2).trans rfl
                   have hcz74_3 : w40.cell? ⟨gb291, 3, none⟩ = some (.int .u32 0) := (blk_cell BK291.out 3).trans rfl
                   have hfz74_0 := blk_frozen BK291.out 0
                   have hfz74_1 := blk_frozen BK291.out 1
                   have hfz74_2 := blk_frozen BK291.out 2
                   have hfz74_3 := blk_frozen BK291.out 3
                   go_wp2_with (first | ((with_reducible refine gate_callee (f := 12) rfl ?_); refine goesL_ (some 58) rfl rfl Tryz.func12 (by kernel_rfl) rfl #[.slice (some ad285) t282.length co7, .int .u32 ((rd_T30 t282 x14_1).f0), .int .u32 ((rd_T30 t282 x49_3).f0)] rfl (by (try simp only [List.map_toArray, List.map_cons, List.map_nil]); first | done | rfl | (simp only [List.length_drop, List.length_take]; rfl)) ?_; (with_reducible refine (chart_Chart_Within.calls k3 _ _ t282 ((rd_T30 t282 x14_1).f0) ((rd_T30 t282 x49_3).f0) true _ ?side1 ?side2 A43.out).mono ?_); (case side1 => refine (Kd.R_reads' (e := 30) (base := w.heap.size) (ok := fun k_ => (k_ ≠ gb286 ∧ k_ ≠ gb291)) (n := t282.length) (c := co7) ?_).2.2; exact (by (with_reducible repeat (first | apply Kd.R_alloc | apply Kd.R_drewN | apply Kd.R_drew)); exact (Kd.R_mono (Kd.R_far (p := ⟨gb291, 3, none⟩) (Kd.R_far (p := ⟨gb291, 2, none⟩) (Kd.R_far (p := ⟨gb291, 1, none⟩) (Kd.R_far (p := ⟨gb291, 0, none⟩) (Kd.R_mono HO_3.out (fun k_ hk => (⟨hk, hk.2⟩ : _ ∧ k_ ≠ gb291))) (fun _ hk => hk.2) (.int .u32 ((rd_T30 t282 x49_3).f0))) (fun _ hk => hk.2) (.string ((rd_T30 t282 x49_3).f1))) (fun _ hk => hk.2) (.int .u8 ((rd_T30 t282 x49_3).f2))) (fun _ hk => hk.2) (.int .u32 ((rd_T30 t282 x49_3).f3))) (fun _ h_ => h_.1)))); (case side2 => exact (Kd.R_reads' HO_3.out).2.1); rintro e w75 ⟨rfl, hb⟩; refine ⟨_, rfl, ?_⟩; have n0_ := Aside0.mk (Kd.R_below (by (with_reducible repeat (first | apply Kd.R_alloc | apply Kd.R_drewN | apply Kd.R_drew)); exact (Kd.R_mono (Kd.R_far (p := ⟨gb291, 3, none⟩) (Kd.R_far (p := ⟨gb291, 2, none⟩) (Kd.R_far (p := ⟨gb291, 1, none⟩) (Kd.R_far (p := ⟨gb291, 0, none⟩) (Kd.R_mono HO_3.out (fun k_ hk => (⟨hk, hk.2⟩ : _ ∧ k_ ≠ gb291))) (fun _ hk => hk.2) (.int .u32 ((rd_T30 t282 x49_3).f0))) (fun _ hk => hk.2) (.string ((rd_T30 t282 x49_3).f1))) (fun _ hk => hk.2) (.int .u8 ((rd_T30 t282 x49_3).f2))) (fun _ hk => hk.2) (.int .u32 ((rd_T30 t282 x49_3).f3))) (fun _ h_ => h_.1))) hb); have n1_ := Aside0.mk (Kd.R_below (by (with_reducible repeat (first | apply Kd.R_alloc | apply Kd.R_drewN | apply Kd.R_drew)); exact (Kd.R_mono (Kd.R_far (p := ⟨gb291, 3, none⟩) (Kd.R_far (p := ⟨gb291, 2, none⟩) (Kd.R_far (p := ⟨gb291, 1, none⟩) (Kd.R_far (p := ⟨gb291, 0, none⟩) (Kd.R_mono HO_12.out (fun k_ hk => (⟨hk, hk.2⟩ : _ ∧ k_ ≠ gb291))) (fun _ hk => hk.2) (.int .u32 ((rd_T30 t282 x49_3).f0))) (fun _ hk => hk.2) (.string ((rd_T30 t282 x49_3).f1))) (fun _ hk => hk.2) (.int .u8 ((rd_T30 t282 x49_3).f2))) (fun _ hk => hk.2) (.int .u32 ((rd_T30 t282 x49_3).f3))) (fun _ h_ => h_.1))) hb); have n2_ := Aside0.mk (Kd.R_below (by (with_reducible repeat (first | apply Kd.R_alloc | apply Kd.R_drewN | apply Kd.R_drew)); exact (Kd.R_mono (Kd.R_far (p := ⟨gb291, 3, none⟩) (Kd.R_far (p := ⟨gb291, 2, none⟩) (Kd.R_far (p := ⟨gb291, 1, none⟩) (Kd.R_far (p := ⟨gb291, 0, none⟩) (Kd.R_mono HO_47.out (fun k_ hk => (⟨hk, hk.2⟩ : _ ∧ k_ ≠ gb291))) (fun _ hk => hk.2) (.int .u32 ((rd_T30 t282 x49_3).f0))) (fun _ hk => hk.2) (.string ((rd_T30 t282 x49_3).f1))) (fun _ hk => hk.2) (.int .u8 ((rd_T30 t282 x49_3).f2))) (fun _ hk => hk.2) (.int .u32 ((rd_T30 t282 x49_3).f3))) (fun _ h_ => h_.1))) hb); have n3_ := Aside0.mk (blk_below (g := gb286) (o := .cells #[.int .u32 ((rd_T30 t282 x14_1).f0), .string ((rd_T30 t282 x14_1).f1), .int .u8 ((rd_T30 t282 x14_1).f2), .int .u32 ((rd_T30 t282 x14_1).f3)] 30 (0, 0)) (by (with_reducible repeat (first | refine blk_drewN ?_ _ | refine blk_drew ?_ | refine blk_alloc ?_ _)); refine blk_far ?_ NB286_291.out _; (with_reducible repeat (first | refine blk_drewN ?_ _ | refine blk_drew ?_ | refine blk_alloc ?_ _)); refine blk_far ?_ NB286_291.out _; (with_reducible repeat (first | refine blk_drewN ?_ _ | refine blk_drew ?_ | refine blk_alloc ?_ _)); refine blk_far ?_ NB286_291.out _; (with_reducible repeat (first | refine blk_drewN ?_ _ | refine blk_drew ?_ | refine blk_alloc ?_ _)); refine blk_far ?_ NB286_291.out _; (with_reducible repeat (first | refine blk_drewN ?_ _ | refine blk_drew ?_ | refine blk_alloc ?_ _)); exact BK286.out) hb); have n4_ := Aside0.mk (blk_below (g := gb291) (o := .cells #[.int .u32 ((rd_T30 t282 x49_3).f0), .string ((rd_T30 t282 x49_3).f1), .int .u8 ((rd_T30 t282 x49_3).f2), .int .u32 ((rd_T30 t282 x49_3).f3)] 30 (0, 0)) (by (with_reducible repeat (first | refine blk_drewN ?_ _ | refine blk_drew ?_ | refine blk_alloc ?_ _)); refine blk_put (cs := #[.int .u32 ((rd_T30 t282 x49_3).f0), .string ((rd_T30 t282 x49_3).f1), .int .u8 ((rd_T30 t282 x49_3).f2), .int .u32 0]) ?_ 3 _ rfl; (with_reducible repeat (first | refine blk_drewN ?_ _ | refine blk_drew ?_ | refine blk_alloc ?_ _)); refine blk_put (cs := #[.int .u32 ((rd_T30 t282 x49_3).f0), .string ((rd_T30 t282 x49_3).f1), .int .u8 0, .int .u32 0]) ?_ 2 _ rfl; (with_reducible repeat (first | refine blk_drewN ?_ _ | refine blk_drew ?_ | refine blk_alloc ?_ _)); refine blk_put (cs := #[.int .u32 ((rd_T30 t282 x49_3).f0), .string (⟨#[]⟩ : ByteArray), .int .u8 0, .int .u32 0]) ?_ 1 _ rfl; (with_reducible repeat (first | refine blk_drewN ?_ _ | refine blk_drew ?_ | refine blk_alloc ?_ _)); refine blk_put (cs := #[.int .u32 0, .string (⟨#[]⟩ : ByteArray), .int .u8 0, .int .u32 0]) ?_ 0 _ rfl; (with_reducible repeat (first | refine blk_drewN ?_ _ | refine blk_drew ?_ | refine blk_alloc ?_ _)); exact BK291.out) hb); have n5_ := Aside0.mk (below_step (by repeat (first | (with_reducible first | exact HB.out | apply below_alloc | apply pw_below_drewN | apply below_drew1 | refine below_set ?_ GE286.out | refine below_set ?_ GE291.out) | exact HB.out)) hb); clear HO_3; clear HO_12; clear HO_47; clear BK286; clear BK291; clear HB; have HO_3 := n0_; have HO_12 := n1_; have HO_47 := n2_; have BK286 := n3_; have BK291 := n4_; have HB := n5_; clear n0_ n1_ n2_ n3_ n4_ n5_; (try clear hb); (try clear hb2); (try clear hk); (try clear hi); have hcz76_0 : w75.cell? ⟨gb286, 0, none⟩ = some (.int .u32 ((rd_T30 t282 x14_1).f0)) := (blk_cell BK286.out 0).trans rfl; have hcz76_1 : w75.cell? ⟨gb286, 1, none⟩ = some (.string ((rd_T30 t282 x14_1).f1)) := (blk_cell BK286.out 1).trans rfl; have hcz76_2 : w75.cell? ⟨gb286, 2, none⟩ = some (.int .u8 ((rd_T30 t282 x14_1).f2)) := (blk_cell BK286.out 2).trans rfl; have hcz76_3 : w75.cell? ⟨gb286, 3, none⟩ = some (.int .u32 ((rd_T30 t282 x14_1).f3)) := (blk_cell BK286.out 3).trans rfl; have hfz76_0 := blk_frozen BK286.out 0; have hfz76_1 := blk_frozen BK286.out 1; have hfz76_2 := blk_frozen BK286.out 2; have hfz76_3 := blk_frozen BK286.out 3; have hcz77_0 : w75.cell? ⟨gb291, 0, none⟩ = some (.int .u32 ((rd_T30 t282 x49_3).f0)) := (blk_cell BK291.out 0).trans rfl; have hcz77_1 : w75.cell? ⟨gb291, 1, none⟩ = some (.string ((rd_T30 t282 x49_3).f1)) := (blk_cell BK291.out 1).trans rfl; have hcz77_2 : w75.cell? ⟨gb291, 2, none⟩ = some (.int .u8 ((rd_T30 t282 x49_3).f2)) := (blk_cell BK291.out 2).trans rfl; have hcz77_3 : w75.cell? ⟨gb291, 3, none⟩ = some (.int .u32 ((rd_T30 t282 x49_3).f3)) := (blk_cell BK291.out 3).trans rfl; have hfz77_0 := blk_frozen BK291.out 0; have hfz77_1 := blk_frozen BK291.out 1; have hfz77_2 := blk_frozen BK291.out 2; have hfz77_3 := blk_frozen BK291.out 3) | (go_at_call 12; (with_reducible refine (chart_Chart_Within.calls k3 _ _ t282 ((rd_T30 t282 x14_1).f0) ((rd_T30 t282 x49_3).f0) false _ ?side1 ?side2 A46.out).mono ?_); (case side1 => repeat (first | exact (Kd.R_reads' HO_3.out).2.2 | (with_reducible refine Kd.C_alloc ?_ _) | (with_reducible refine Kd.C_drewN ?_ _) | (with_reducible refine Kd.C_drew ?_))); (case side2 => exact (Kd.R_reads' HO_3.out).2.1); rintro e w78 ⟨rfl, hb⟩; have n0_ := Aside0.mk (Kd.R_below (by (with_reducible repeat (first | apply Kd.R_alloc | apply Kd.R_drewN | apply Kd.R_drew)); exact HO_3.out) hb); have n1_ := Aside0.mk (Kd.R_below (by (with_reducible repeat (first | apply Kd.R_alloc | apply Kd.R_drewN | apply Kd.R_drew)); exact HO_12.out) hb); have n2_ := Aside0.mk (Kd.R_below (by (with_reducible repeat (first | apply Kd.R_alloc | apply Kd.R_drewN | apply Kd.R_drew)); exact HO_47.out) hb); have n3_ := Aside0.mk (blk_below (g := gb286) (o := .cells #[.int .u32 ((rd_T30 t282 x14_1).f0), .string ((rd_T30 t282 x14_1).f1), .int .u8 ((rd_T30 t282 x14_1).f2), .int .u32 ((rd_T30 t282 x14_1).f3)] 30 (0, 0)) (by (with_reducible repeat (first | refine blk_drewN ?_ _ | refine blk_drew ?_ | refine blk_alloc ?_ _)); exact BK286.out) hb); have n4_ := Aside0.mk (blk_below (g := gb291) (o := .cells #[.int .u32 ((rd_T30 t282 x49_3).f0), .string ((rd_T30 t282 x49_3).f1), .int .u8 ((rd_T30 t282 x49_3).f2), .int .u32 ((rd_T30 t282 x49_3).f3)] 30 (0, 0)) (by (with_reducible repeat (first | refine blk_drewN ?_ _ | refine blk_drew ?_ | refine blk_alloc ?_ _)); exact BK291.out) hb); have n5_ := Aside0.mk (below_step (by repeat (first | (with_reducible first | exact HB.out | apply below_alloc | apply pw_below_drewN | apply below_drew1 | refine below_set ?_ GE286.out | refine below_set ?_ GE291.out) | exact HB.out)) hb); clear HO_3; clear HO_12; clear HO_47; clear BK286; clear BK291; clear HB; have HO_3 := n0_; have HO_12 := n1_; have HO_47 := n2_; have BK286 := n3_; have BK291 := n4_; have HB := n5_; clear n0_ n1_ n2_ n3_ n4_ n5_; (try clear hb); (try clear hb2); (try clear hk); (try clear hi)))
                   go_meet
                   case rel => exact ⟨_, (false), (by first | rfl | (simp; done) | (simp [*]; done)), H', ⟨by have := HK1.out; have := HJ10.out; have := HK3.out; first | omega | exact Nat.le_refl _⟩, ⟨by (with_reducible repeat (first | apply Kd.R_alloc | apply Kd.R_drewN | apply Kd.R_drew)); exact HO_3.out⟩, ⟨by (with_reducible repeat (first | apply Kd.R_alloc | apply Kd.R_drewN | apply Kd.R_drew)); exact HO_12.out⟩, ⟨by (with_reducible repeat (first | apply Kd.R_alloc | apply Kd.R_drewN | apply Kd.R_drew)); exact HO_47.out⟩, ⟨by (with_reducible repeat (first | refine blk_drewN ?_ _ | refine blk_drew ?_ | refine blk_alloc ?_ _)); exact BK286.out⟩, ⟨by (with_reducible repeat (first | refine blk_drewN ?_ _ | refine blk_drew ?_ | refine blk_alloc ?_ _)); exact BK291.out⟩, ⟨by repeat (first | (with_reducible first | exact HB.out | apply below_alloc | apply pw_below_drewN | apply below_drew1 | refine below_set ?_ GE286.out | refine below_set ?_ GE291.out) | exact HB.out)⟩⟩
                 ·rw [if_neg c45] at H
                  have c45b0 : (((rd_T30 t282 x14_1).f2) == ((rd_T30 t282 x49_3).f2)) = false := beq_eq_false_iff_ne.mpr c45
                  have c45b1 : (((rd_T30 t282 x14_1).f2) != ((rd_T30 t282 x49_3).f2)) = true := bne_iff_ne.mpr c45
                  (first | rw [c45b0] | (simp only [i64_w, i32_w]; rw [c45b0]) | skip)
                  have H' := Aside0.mk H
                  clear H
                  have hnb79 := NB286_291.out
                  have hnc79 := NB291_286.out
                  have hcz80_0 : w40.cell? ⟨gb286, 0, none⟩ = some (.int .u32 ((rd_T30 t282 x14_1).f0)) := (blk_cell BK286.out 0).trans rfl
                  have hcz80_1 : w40.cell? ⟨gb286, 1, none⟩ = some (.string ((rd_T30 t282 x14_1).f1)) := (blk_cell BK286.out 1).trans rfl
                  have hcz80_2 : w40.cell? ⟨gb286, 2, none⟩ = some (.int .u8 ((rd_T30 t282 x14_1).f2)) := (blk_cell BK286.out 2).trans rfl
                  have hcz80_3 : w40.cell? ⟨gb286, 3, none⟩ = some (.int .u32 ((rd_T30 t282 x14_1).f3)) := (blk_cell BK286.out 3).trans rfl
                  have hfz80_0 := blk_frozen BK286.out 0
                  have hfz80_1 := blk_frozen BK286.out 1
                  have hfz80_2 := blk_frozen BK286.out 2
                  have hfz80_3 := blk_frozen BK286.out 3
                  have hcz81_0 : w40.cell? ⟨gb291, 0, none⟩ = some (.int .u32 0) := (blk_cell BK291.out 0).trans rfl
                  have hcz81_1 : w40.cell? ⟨gb291, 1, none⟩ = some (.string (⟨#[]⟩ : ByteArray)) := (blk_cell BK291.out 1).trans rfl
                  have hcz81_2 : w40.cell? ⟨gb291, 2, none⟩ = some (.int .u8 0) := (blk_cell BK291.out 2).trans rfl
                  have hcz81_3 : w40.cell? ⟨gb291, 3, none⟩ = some (.int .u32 0) := (blk_cell BK291.out 3).trans rfl
                  have hfz81_0 := blk_frozen BK291.out 0
                  have hfz81_1 := blk_frozen BK291.out 1
                  have hfz81_2 := blk_frozen BK291.out 2
                  have hfz81_3 := blk_frozen BK291.out 3
                  go_wp2_with (first | ((with_reducible refine gate_callee (f := 12) rfl ?_); refine goesL_ (some 58) rfl rfl Tryz.func12 (by kernel_rfl) rfl #[.slice (some ad285) t282.length co7, .int .u32 ((rd_T30 t282 x14_1).f0), .int .u32 ((rd_T30 t282 x49_3).f0)] rfl (by (try simp only [List.map_toArray, List.map_cons, List.map_nil]); first | done | rfl | (simp only [List.length_drop, List.length_take]; rfl)) ?_; (with_reducible refine (chart_Chart_Within.calls k3 _ _ t282 ((rd_T30 t282 x14_1).f0) ((rd_T30 t282 x49_3).f0) true _ ?side1 ?side2 A43.out).mono ?_); (case side1 => refine (Kd.R_reads' (e := 30) (base := w.heap.size) (ok := fun k_ => (k_ ≠ gb286 ∧ k_ ≠ gb291)) (n := t282.length) (c := co7) ?_).2.2; exact (by (with_reducible repeat (first | apply Kd.R_alloc | apply Kd.R_drewN | apply Kd.R_drew)); exact (Kd.R_mono (Kd.R_far (p := ⟨gb291, 3, none⟩) (Kd.R_far (p := ⟨gb291, 2, none⟩) (Kd.R_far (p := ⟨gb291, 1, none⟩) (Kd.R_far (p := ⟨gb291, 0, none⟩) (Kd.R_mono HO_3.out (fun k_ hk => (⟨hk, hk.2⟩ : _ ∧ k_ ≠ gb291))) (fun _ hk => hk.2) (.int .u32 ((rd_T30 t282 x49_3).f0))) (fun _ hk => hk.2) (.string ((rd_T30 t282 x49_3).f1))) (fun _ hk => hk.2) (.int .u8 ((rd_T30 t282 x49_3).f2))) (fun _ hk => hk.2) (.int .u32 ((rd_T30 t282 x49_3).f3))) (fun _ h_ => h_.1)))); (case side2 => exact (Kd.R_reads' HO_3.out).2.1); rintro e w82 ⟨rfl, hb⟩; refine ⟨_, rfl, ?_⟩; have n0_ := Aside0.mk (Kd.R_below (by (with_reducible repeat (first | apply Kd.R_alloc | apply Kd.R_drewN | apply Kd.R_drew)); exact (Kd.R_mono (Kd.R_far (p := ⟨gb291, 3, none⟩) (Kd.R_far (p := ⟨gb291, 2, none⟩) (Kd.R_far (p := ⟨gb291, 1, none⟩) (Kd.R_far (p := ⟨gb291, 0, none⟩) (Kd.R_mono HO_3.out (fun k_ hk => (⟨hk, hk.2⟩ : _ ∧ k_ ≠ gb291))) (fun _ hk => hk.2) (.int .u32 ((rd_T30 t282 x49_3).f0))) (fun _ hk => hk.2) (.string ((rd_T30 t282 x49_3).f1))) (fun _ hk => hk.2) (.int .u8 ((rd_T30 t282 x49_3).f2))) (fun _ hk => hk.2) (.int .u32 ((rd_T30 t282 x49_3).f3))) (fun _ h_ => h_.1))) hb); have n1_ := Aside0.mk (Kd.R_below (by (with_reducible repeat (first | apply Kd.R_alloc | apply Kd.R_drewN | apply Kd.R_drew)); exact (Kd.R_mono (Kd.R_far (p := ⟨gb291, 3, none⟩) (Kd.R_far (p := ⟨gb291, 2, none⟩) (Kd.R_far (p := ⟨gb291, 1, none⟩) (Kd.R_far (p := ⟨gb291, 0, none⟩) (Kd.R_mono HO_12.out (fun k_ hk => (⟨hk, hk.2⟩ : _ ∧ k_ ≠ gb291))) (fun _ hk => hk.2) (.int .u32 ((rd_T30 t282 x49_3).f0))) (fun _ hk => hk.2) (.string ((rd_T30 t282 x49_3).f1))) (fun _ hk => hk.2) (.int .u8 ((rd_T30 t282 x49_3).f2))) (fun _ hk => hk.2) (.int .u32 ((rd_T30 t282 x49_3).f3))) (fun _ h_ => h_.1))) hb); have n2_ := Aside0.mk (Kd.R_below (by (with_reducible repeat (first | apply Kd.R_alloc | apply Kd.R_drewN | apply Kd.R_drew)); exact (Kd.R_mono (Kd.R_far (p := ⟨gb291, 3, none⟩) (Kd.R_far (p := ⟨gb291, 2, none⟩) (Kd.R_far (p := ⟨gb291, 1, none⟩) (Kd.R_far (p := ⟨gb291, 0, none⟩) (Kd.R_mono HO_47.out (fun k_ hk => (⟨hk, hk.2⟩ : _ ∧ k_ ≠ gb291))) (fun _ hk => hk.2) (.int .u32 ((rd_T30 t282 x49_3).f0))) (fun _ hk => hk.2) (.string ((rd_T30 t282 x49_3).f1))) (fun _ hk => hk.2) (.int .u8 ((rd_T30 t282 x49_3).f2))) (fun _ hk => hk.2) (.int .u32 ((rd_T30 t282 x49_3).f3))) (fun _ h_ => h_.1))) hb); have n3_ := Aside0.mk (blk_below (g := gb286) (o := .cells #[.int .u32 ((rd_T30 t282 x14_1).f0), .string ((rd_T30 t282 x14_1).f1), .int .u8 ((rd_T30 t282 x14_1).f2), .int .u32 ((rd_T30 t282 x14_1).f3)] 30 (0, 0)) (by (with_reducible repeat (first | refine blk_drewN ?_ _ | refine blk_drew ?_ | refine blk_alloc ?_ _)); refine blk_far ?_ NB286_291.out _; (with_reducible repeat (first | refine blk_drewN ?_ _ | refine blk_drew ?_ | refine blk_alloc ?_ _)); refine blk_far ?_ NB286_291.out _; (with_reducible repeat (first | refine blk_drewN ?_ _ | refine blk_drew ?_ | refine blk_alloc ?_ _)); refine blk_far ?_ NB286_291.out _; (with_reducible repeat (first | refine blk_drewN ?_ _ | refine blk_drew ?_ | refine blk_alloc ?_ _)); refine blk_far ?_ NB286_291.out _; (with_reducible repeat (first | refine blk_drewN ?_ _ | refine blk_drew ?_ | refine blk_alloc ?_ _)); exact BK286.out) hb); have n4_ := Aside0.mk (blk_below (g := gb291) (o := .cells #[.int .u32 ((rd_T30 t282 x49_3).f0), .string ((rd_T30 t282 x49_3).f1), .int .u8 ((rd_T30 t282 x49_3).f2), .int .u32 ((rd_T30 t282 x49_3).f3)] 30 (0, 0)) (by (with_reducible repeat (first | refine blk_drewN ?_ _ | refine blk_drew ?_ | refine blk_alloc ?_ _)); refine blk_put (cs := #[.int .u32 ((rd_T30 t282 x49_3).f0), .string ((rd_T30 t282 x49_3).f1), .int .u8 ((rd_T30 t282 x49_3).f2), .int .u32 0]) ?_ 3 _ rfl; (with_reducible repeat (first | refine blk_drewN ?_ _ | refine blk_drew ?_ | refine blk_alloc ?_ _)); refine blk_put (cs := #[.int .u32 ((rd_T30 t282 x49_3).f0), .string ((rd_T30 t282 x49_3).f1), .int .u8 0, .int .u32 0]) ?_ 2 _ rfl; (with_reducible repeat (first | refine blk_drewN ?_ _ | refine blk_drew ?_ | refine blk_alloc ?_ _)); refine blk_put (cs := #[.int .u32 ((rd_T30 t282 x49_3).f0), .string (⟨#[]⟩ : ByteArray), .int .u8 0, .int .u32 0]) ?_ 1 _ rfl; (with_reducible repeat (first | refine blk_drewN ?_ _ | refine blk_drew ?_ | refine blk_alloc ?_ _)); refine blk_put (cs := #[.int .u32 0, .string (⟨#[]⟩ : ByteArray), .int .u8 0, .int .u32 0]) ?_ 0 _ rfl; (with_reducible repeat (first | refine blk_drewN ?_ _ | refine blk_drew ?_ | refine blk_alloc ?_ _)); exact BK291.out) hb); have n5_ := Aside0.mk (below_step (by repeat (first | (with_reducible first | exact HB.out | apply below_alloc | apply pw_below_drewN | apply below_drew1 | refine below_set ?_ GE286.out | refine below_set ?_ GE291.out) | exact HB.out)) hb); clear HO_3; clear HO_12; clear HO_47; clear BK286; clear BK291; clear HB; have HO_3 := n0_; have HO_12 := n1_; have HO_47 := n2_; have BK286 := n3_; have BK291 := n4_; have HB := n5_; clear n0_ n1_ n2_ n3_ n4_ n5_; (try clear hb); (try clear hb2); (try clear hk); (try clear hi); have hcz83_0 : w82.cell? ⟨gb286, 0, none⟩ = some (.int .u32 ((rd_T30 t282 x14_1).f0)) := (blk_cell BK286.out 0).trans rfl; have hcz83_1 : w82.cell? ⟨gb286, 1, none⟩ = some (.string ((rd_T30 t282 x14_1).f1)) := (blk_cell BK286.out 1).trans rfl; have hcz83_2 : w82.cell? ⟨gb286, 2, none⟩ = some (.int .u8 ((rd_T30 t282 x14_1).f2)) := (blk_cell BK286.out 2).trans rfl; have hcz83_3 : w82.cell? ⟨gb286, 3, none⟩ = some (.int .u32 ((rd_T30 t282 x14_1).f3)) := (blk_cell BK286.out 3).trans rfl; have hfz83_0 := blk_frozen BK286.out 0; have hfz83_1 := blk_frozen BK286.out 1; have hfz83_2 := blk_frozen BK286.out 2; have hfz83_3 := blk_frozen BK286.out 3; have hcz84_0 : w82.cell? ⟨gb291, 0, none⟩ = some (.int .u32 ((rd_T30 t282 x49_3).f0)) := (blk_cell BK291.out 0).trans rfl; have hcz84_1 : w82.cell? ⟨gb291, 1, none⟩ = some (.string ((rd_T30 t282 x49_3).f1)) := (blk_cell BK291.out 1).trans rfl; have hcz84_2 : w82.cell? ⟨gb291, 2, none⟩ = some (.int .u8 ((rd_T30 t282 x49_3).f2)) := (blk_cell BK291.out 2).trans rfl; have hcz84_3 : w82.cell? ⟨gb291, 3, none⟩ = some (.int .u32 ((rd_T30 t282 x49_3).f3)) := (blk_cell BK291.out 3).trans rfl; have hfz84_0 := blk_frozen BK291.out 0; have hfz84_1 := blk_frozen BK291.out 1; have hfz84_2 := blk_frozen BK291.out 2; have hfz84_3 := blk_frozen BK291.out 3))
                  go_meet
                  case rel => exact ⟨_, (true), (by first | rfl | (simp; done) | (simp [*]; done)), H', ⟨by have := HK1.out; have := HJ10.out; have := HK3.out; first | omega | exact Nat.le_refl _⟩, ⟨by (with_reducible repeat (first | apply Kd.R_alloc | apply Kd.R_drewN | apply Kd.R_drew)); exact HO_3.out⟩, ⟨by (with_reducible repeat (first | apply Kd.R_alloc | apply Kd.R_drewN | apply Kd.R_drew)); exact HO_12.out⟩, ⟨by (with_reducible repeat (first | apply Kd.R_alloc | apply Kd.R_drewN | apply Kd.R_drew)); exact HO_47.out⟩, ⟨by (with_reducible repeat (first | refine blk_drewN ?_ _ | refine blk_drew ?_ | refine blk_alloc ?_ _)); exact BK286.out⟩, ⟨by (with_reducible repeat (first | refine blk_drewN ?_ _ | refine blk_drew ?_ | refine blk_alloc ?_ _)); exact BK291.out⟩, ⟨by repeat (first | (with_reducible first | exact HB.out | apply below_alloc | apply pw_below_drewN | apply below_drew1 | refine below_set ?_ GE286.out | refine below_set ?_ GE291.out) | exact HB.out)⟩⟩
                ·replace c44 := Bool.eq_false_iff.mpr c44
                 subst c44
                 have H1 : ((chart_Chart_Within.f k3 t282 ((rd_T30 t282 x14_1).f0) ((rd_T30 t282 x49_3).f0)).bind fun t295 => (if t295 = true then ((chart_Chart_Within.f k3 t282 ((rd_T30 t282 x49_3).f0) ((rd_T30 t282 x14_1).f0)).bind fun t296 => (if t296 = true then (transposallaw06_ChartTree.j3 k3 t282 t282 (t282.length : Int) x14_1 t282 (t282.length : Int) x49_3 (((rd_T30 t282 x14_1).f0) != ((rd_T30 t282 x49_3).f0)) ((rd_T30 t282 x14_1).f0) ((rd_T30 t282 x14_1).f1) ((rd_T30 t282 x14_1).f2) ((rd_T30 t282 x14_1).f3) ((rd_T30 t282 x49_3).f0) ((rd_T30 t282 x49_3).f1) ((rd_T30 t282 x49_3).f2) ((rd_T30 t282 x49_3).f3)) else (transposallaw06_ChartTree.j3 k3 t282 t282 (t282.length : Int) x14_1 t282 (t282.length : Int) x49_3 false ((rd_T30 t282 x14_1).f0) ((rd_T30 t282 x14_1).f1) ((rd_T30 t282 x14_1).f2) ((rd_T30 t282 x14_1).f3) ((rd_T30 t282 x49_3).f0) ((rd_T30 t282 x49_3).f1) ((rd_T30 t282 x49_3).f2) ((rd_T30 t282 x49_3).f3)))) else (transposallaw06_ChartTree.j3 k3 t282 t282 (t282.length : Int) x14_1 t282 (t282.length : Int) x49_3 false ((rd_T30 t282 x14_1).f0) ((rd_T30 t282 x14_1).f1) ((rd_T30 t282 x14_1).f2) ((rd_T30 t282 x14_1).f3) ((rd_T30 t282 x49_3).f0) ((rd_T30 t282 x49_3).f1) ((rd_T30 t282 x49_3).f2) ((rd_T30 t282 x49_3).f3)))) = some r := by rw [if_neg (show ¬ (false = true) by decide)] at H; exact H
                 clear H
                 have H := H1
                 clear H1
                 replace H := Option.bind_eq_some_iff.mp H
                 obtain ⟨t295, A850, H⟩ := H
                 replace H : (if t295 = true then ((chart_Chart_Within.f k3 t282 ((rd_T30 t282 x49_3).f0) ((rd_T30 t282 x14_1).f0)).bind fun t296 => (if t296 = true then (transposallaw06_ChartTree.j3 k3 t282 t282 (t282.length : Int) x14_1 t282 (t282.length : Int) x49_3 (((rd_T30 t282 x14_1).f0) != ((rd_T30 t282 x49_3).f0)) ((rd_T30 t282 x14_1).f0) ((rd_T30 t282 x14_1).f1) ((rd_T30 t282 x14_1).f2) ((rd_T30 t282 x14_1).f3) ((rd_T30 t282 x49_3).f0) ((rd_T30 t282 x49_3).f1) ((rd_T30 t282 x49_3).f2) ((rd_T30 t282 x49_3).f3)) else (transposallaw06_ChartTree.j3 k3 t282 t282 (t282.length : Int) x14_1 t282 (t282.length : Int) x49_3 false ((rd_T30 t282 x14_1).f0) ((rd_T30 t282 x14_1).f1) ((rd_T30 t282 x14_1).f2) ((rd_T30 t282 x14_1).f3) ((rd_T30 t282 x49_3).f0) ((rd_T30 t282 x49_3).f1) ((rd_T30 t282 x49_3).f2) ((rd_T30 t282 x49_3).f3)))) else (transposallaw06_ChartTree.j3 k3 t282 t282 (t282.length : Int) x14_1 t282 (t282.length : Int) x49_3 false ((rd_T30 t282 x14_1).f0) ((rd_T30 t282 x14_1).f1) ((rd_T30 t282 x14_1).f2) ((rd_T30 t282 x14_1).f3) ((rd_T30 t282 x49_3).f0) ((rd_T30 t282 x49_3).f1) ((rd_T30 t282 x49_3).f2) ((rd_T30 t282 x49_3).f3))) = some r := H
                 have A85 := Aside0.mk A850
                 clear A850
                 by_cases c86 : t295 = true
                 ·subst c86
                  have H1 : ((chart_Chart_Within.f k3 t282 ((rd_T30 t282 x49_3).f0) ((rd_T30 t282 x14_1).f0)).bind fun t296 => (if t296 = true then (transposallaw06_ChartTree.j3 k3 t282 t282 (t282.length : Int) x14_1 t282 (t282.length : Int) x49_3 (((rd_T30 t282 x14_1).f0) != ((rd_T30 t282 x49_3).f0)) ((rd_T30 t282 x14_1).f0) ((rd_T30 t282 x14_1).f1) ((rd_T30 t282 x14_1).f2) ((rd_T30 t282 x14_1).f3) ((rd_T30 t282 x49_3).f0) ((rd_T30 t282 x49_3).f1) ((rd_T30 t282 x49_3).f2) ((rd_T30 t282 x49_3).f3)) else (transposallaw06_ChartTree.j3 k3 t282 t282 (t282.length : Int) x14_1 t282 (t282.length : Int) x49_3 false ((rd_T30 t282 x14_1).f0) ((rd_T30 t282 x14_1).f1) ((rd_T30 t282 x14_1).f2) ((rd_T30 t282 x14_1).f3) ((rd_T30 t282 x49_3).f0) ((rd_T30 t282 x49_3).f1) ((rd_T30 t282 x49_3).f2) ((rd_T30 t282 x49_3).f3)))) = some r := by rw [if_pos rfl] at H; exact H
                  clear H
                  have H := H1
                  clear H1
                  replace H := Option.bind_eq_some_iff.mp H
                  obtain ⟨t296, A870, H⟩ := H
                  replace H : (if t296 = true then (transposallaw06_ChartTree.j3 k3 t282 t282 (t282.length : Int) x14_1 t282 (t282.length : Int) x49_3 (((rd_T30 t282 x14_1).f0) != ((rd_T30 t282 x49_3).f0)) ((rd_T30 t282 x14_1).f0) ((rd_T30 t282 x14_1).f1) ((rd_T30 t282 x14_1).f2) ((rd_T30 t282 x14_1).f3) ((rd_T30 t282 x49_3).f0) ((rd_T30 t282 x49_3).f1) ((rd_T30 t282 x49_3).f2) ((rd_T30 t282 x49_3).f3)) else (transposallaw06_ChartTree.j3 k3 t282 t282 (t282.length : Int) x14_1 t282 (t282.length : Int) x49_3 false ((rd_T30 t282 x14_1).f0) ((rd_T30 t282 x14_1).f1) ((rd_T30 t282 x14_1).f2) ((rd_T30 t282 x14_1).f3) ((rd_T30 t282 x49_3).f0) ((rd_T30 t282 x49_3).f1) ((rd_T30 t282 x49_3).f2) ((rd_T30 t282 x49_3).f3))) = some r := H
                  have A87 := Aside0.mk A870
                  clear A870
                  by_cases c88 : t296 = true
                  ·subst c88
                   have H1 : (transposallaw06_ChartTree.j3 k3 t282 t282 (t282.length : Int) x14_1 t282 (t282.length : Int) x49_3 (((rd_T30 t282 x14_1).f0) != ((rd_T30 t282 x49_3).f0)) ((rd_T30 t282 x14_1).f0) ((rd_T30 t282 x14_1).f1) ((rd_T30 t282 x14_1).f2) ((rd_T30 t282 x14_1).f3) ((rd_T30 t282 x49_3).f0) ((rd_T30 t282 x49_3).f1) ((rd_T30 t282 x49_3).f2) ((rd_T30 t282 x49_3).f3)) = some r := by rw [if_pos rfl] at H; exact H
                   clear H
                   have H := H1
                   clear H1
                   have H' := Aside0.mk H
                   clear H
                   have hnb89 := NB286_291.out
                   have hnc89 := NB291_286.out
                   have hcz90_0 : w40.cell? ⟨gb286, 0, none⟩ = some (.int .u32 ((rd_T30 t282 x14_1).f0)) := (blk_cell BK286.out 0).trans rfl
                   have hcz90_1 : w40.cell? ⟨gb286, 1, none⟩ = some (.string ((rd_T30 t282 x14_1).f1)) := (blk_cell BK286.out 1).trans rfl
                   have hcz90_2 : w40.cell? ⟨gb286, 2, none⟩ = some (.int .u8 ((rd_T30 t282 x14_1).f2)) := (blk_cell BK286.out 2).trans rfl
                   have hcz90_3 : w40.cell? ⟨gb286, 3, none⟩ = some (.int .u32 ((rd_T30 t282 x14_1).f3)) := (blk_cell BK286.out 3).trans rfl
                   have hfz90_0 := blk_frozen BK286.out 0
                   have hfz90_1 := blk_frozen BK286.out 1
                   have hfz90_2 := blk_frozen BK286.out 2
                   have hfz90_3 := blk_frozen BK286.out 3
                   have hcz91_0 : w40.cell? ⟨gb291, 0, none⟩ = some (.int .u32 0) := (blk_cell BK291.out 0).trans rfl
                   have hcz91_1 : w40.cell? ⟨gb291, 1, none⟩ = some (.string (⟨#[]⟩ : ByteArray)) := (blk_cell BK291.out 1).trans rfl
                   have hcz91_2 : w40.cell? ⟨gb291, 2, none⟩ = some (.int .u8 0) := (blk_cell BK291.out 2).trans rfl
                   have hcz91_3 : w40.cell? ⟨gb291, 3, none⟩ = some (.int .u32 0) := (blk_cell BK291.out 3).trans rfl
                   have hfz91_0 := blk_frozen BK291.out 0
                   have hfz91_1 := blk_frozen BK291.out 1
                   have hfz91_2 := blk_frozen BK291.out 2
                   have hfz91_3 := blk_frozen BK291.out 3
                   go_wp2_with (first | ((with_reducible refine gate_callee (f := 12) rfl ?_); refine goesL_ (some 58) rfl rfl Tryz.func12 (by kernel_rfl) rfl #[.slice (some ad285) t282.length co7, .int .u32 ((rd_T30 t282 x14_1).f0), .int .u32 ((rd_T30 t282 x49_3).f0)] rfl (by (try simp only [List.map_toArray, List.map_cons, List.map_nil]); first | done | rfl | (simp only [List.length_drop, List.length_take]; rfl)) ?_; (with_reducible refine (chart_Chart_Within.calls k3 _ _ t282 ((rd_T30 t282 x14_1).f0) ((rd_T30 t282 x49_3).f0) false _ ?side1 ?side2 A43.out).mono ?_); (case side1 => refine (Kd.R_reads' (e := 30) (base := w.heap.size) (ok := fun k_ => (k_ ≠ gb286 ∧ k_ ≠ gb291)) (n := t282.length) (c := co7) ?_).2.2; exact (by (with_reducible repeat (first | apply Kd.R_alloc | apply Kd.R_drewN | apply Kd.R_drew)); exact (Kd.R_mono (Kd.R_far (p := ⟨gb291, 3, none⟩) (Kd.R_far (p := ⟨gb291, 2, none⟩) (Kd.R_far (p := ⟨gb291, 1, none⟩) (Kd.R_far (p := ⟨gb291, 0, none⟩) (Kd.R_mono HO_3.out (fun k_ hk => (⟨hk, hk.2⟩ : _ ∧ k_ ≠ gb291))) (fun _ hk => hk.2) (.int .u32 ((rd_T30 t282 x49_3).f0))) (fun _ hk => hk.2) (.string ((rd_T30 t282 x49_3).f1))) (fun _ hk => hk.2) (.int .u8 ((rd_T30 t282 x49_3).f2))) (fun _ hk => hk.2) (.int .u32 ((rd_T30 t282 x49_3).f3))) (fun _ h_ => h_.1)))); (case side2 => exact (Kd.R_reads' HO_3.out).2.1); rintro e w92 ⟨rfl, hb⟩; refine ⟨_, rfl, ?_⟩; have n0_ := Aside0.mk (Kd.R_below (by (with_reducible repeat (first | apply Kd.R_alloc | apply Kd.R_drewN | apply Kd.R_drew)); exact (Kd.R_mono (Kd.R_far (p := ⟨gb291, 3, none⟩) (Kd.R_far (p := ⟨gb291, 2, none⟩) (Kd.R_far (p := ⟨gb291, 1, none⟩) (Kd.R_far (p := ⟨gb291, 0, none⟩) (Kd.R_mono HO_3.out (fun k_ hk => (⟨hk, hk.2⟩ : _ ∧ k_ ≠ gb291))) (fun _ hk => hk.2) (.int .u32 ((rd_T30 t282 x49_3).f0))) (fun _ hk => hk.2) (.string ((rd_T30 t282 x49_3).f1))) (fun _ hk => hk.2) (.int .u8 ((rd_T30 t282 x49_3).f2))) (fun _ hk => hk.2) (.int .u32 ((rd_T30 t282 x49_3).f3))) (fun _ h_ => h_.1))) hb); have n1_ := Aside0.mk (Kd.R_below (by (with_reducible repeat (first | apply Kd.R_alloc | apply Kd.R_drewN | apply Kd.R_drew)); exact (Kd.R_mono (Kd.R_far (p := ⟨gb291, 3, none⟩) (Kd.R_far (p := ⟨gb291, 2, none⟩) (Kd.R_far (p := ⟨gb291, 1, none⟩) (Kd.R_far (p := ⟨gb291, 0, none⟩) (Kd.R_mono HO_12.out (fun k_ hk => (⟨hk, hk.2⟩ : _ ∧ k_ ≠ gb291))) (fun _ hk => hk.2) (.int .u32 ((rd_T30 t282 x49_3).f0))) (fun _ hk => hk.2) (.string ((rd_T30 t282 x49_3).f1))) (fun _ hk => hk.2) (.int .u8 ((rd_T30 t282 x49_3).f2))) (fun _ hk => hk.2) (.int .u32 ((rd_T30 t282 x49_3).f3))) (fun _ h_ => h_.1))) hb); have n2_ := Aside0.mk (Kd.R_below (by (with_reducible repeat (first | apply Kd.R_alloc | apply Kd.R_drewN | apply Kd.R_drew)); exact (Kd.R_mono (Kd.R_far (p := ⟨gb291, 3, none⟩) (Kd.R_far (p := ⟨gb291, 2, none⟩) (Kd.R_far (p := ⟨gb291, 1, none⟩) (Kd.R_far (p := ⟨gb291, 0, none⟩) (Kd.R_mono HO_47.out (fun k_ hk => (⟨hk, hk.2⟩ : _ ∧ k_ ≠ gb291))) (fun _ hk => hk.2) (.int .u32 ((rd_T30 t282 x49_3).f0))) (fun _ hk => hk.2) (.string ((rd_T30 t282 x49_3).f1))) (fun _ hk => hk.2) (.int .u8 ((rd_T30 t282 x49_3).f2))) (fun _ hk => hk.2) (.int .u32 ((rd_T30 t282 x49_3).f3))) (fun _ h_ => h_.1))) hb); have n3_ := Aside0.mk (blk_below (g := gb286) (o := .cells #[.int .u32 ((rd_T30 t282 x14_1).f0), .string ((rd_T30 t282 x14_1).f1), .int .u8 ((rd_T30 t282 x14_1).f2), .int .u32 ((rd_T30 t282 x14_1).f3)] 30 (0, 0)) (by (with_reducible repeat (first | refine blk_drewN ?_ _ | refine blk_drew ?_ | refine blk_alloc ?_ _)); refine blk_far ?_ NB286_291.out _; (with_reducible repeat (first | refine blk_drewN ?_ _ | refine blk_drew ?_ | refine blk_alloc ?_ _)); refine blk_far ?_ NB286_291.out _; (with_reducible repeat (first | refine blk_drewN ?_ _ | refine blk_drew ?_ | refine blk_alloc ?_ _)); refine blk_far ?_ NB286_291.out _; (with_reducible repeat (first | refine blk_drewN ?_ _ | refine blk_drew ?_ | refine blk_alloc ?_ _)); refine blk_far ?_ NB286_291.out _; (with_reducible repeat (first | refine blk_drewN ?_ _ | refine blk_drew ?_ | refine blk_alloc ?_ _)); exact BK286.out) hb); have n4_ := Aside0.mk (blk_below (g := gb291) (o := .cells #[.int .u32 ((rd_T30 t282 x49_3).f0), .string ((rd_T30 t282 x49_3).f1), .int .u8 ((rd_T30 t282 x49_3).f2), .int .u32 ((rd_T30 t282 x49_3).f3)] 30 (0, 0)) (by (with_reducible repeat (first | refine blk_drewN ?_ _ | refine blk_drew ?_ | refine blk_alloc ?_ _)); refine blk_put (cs := #[.int .u32 ((rd_T30 t282 x49_3).f0), .string ((rd_T30 t282 x49_3).f1), .int .u8 ((rd_T30 t282 x49_3).f2), .int .u32 0]) ?_ 3 _ rfl; (with_reducible repeat (first | refine blk_drewN ?_ _ | refine blk_drew ?_ | refine blk_alloc ?_ _)); refine blk_put (cs := #[.int .u32 ((rd_T30 t282 x49_3).f0), .string ((rd_T30 t282 x49_3).f1), .int .u8 0, .int .u32 0]) ?_ 2 _ rfl; (with_reducible repeat (first | refine blk_drewN ?_ _ | refine blk_drew ?_ | refine blk_alloc ?_ _)); refine blk_put (cs := #[.int .u32 ((rd_T30 t282 x49_3).f0), .string (⟨#[]⟩ : ByteArray), .int .u8 0, .int .u32 0]) ?_ 1 _ rfl; (with_reducible repeat (first | refine blk_drewN ?_ _ | refine blk_drew ?_ | refine blk_alloc ?_ _)); refine blk_put (cs := #[.int .u32 0, .string (⟨#[]⟩ : ByteArray), .int .u8 0, .int .u32 0]) ?_ 0 _ rfl; (with_reducible repeat (first | refine blk_drewN ?_ _ | refine blk_drew ?_ | refine blk_alloc ?_ _)); exact BK291.out) hb); have n5_ := Aside0.mk (below_step (by repeat (first | (with_reducible first | exact HB.out | apply below_alloc | apply pw_below_drewN | apply below_drew1 | refine below_set ?_ GE286.out | refine below_set ?_ GE291.out) | exact HB.out)) hb); clear HO_3; clear HO_12; clear HO_47; clear BK286; clear BK291; clear HB; have HO_3 := n0_; have HO_12 := n1_; have HO_47 := n2_; have BK286 := n3_; have BK291 := n4_; have HB := n5_; clear n0_ n1_ n2_ n3_ n4_ n5_; (try clear hb); (try clear hb2); (try clear hk); (try clear hi); have hcz93_0 : w92.cell? ⟨gb286, 0, none⟩ = some (.int .u32 ((rd_T30 t282 x14_1).f0)) := (blk_cell BK286.out 0).trans rfl; have hcz93_1 : w92.cell? ⟨gb286, 1, none⟩ = some (.string ((rd_T30 t282 x14_1).f1)) := (blk_cell BK286.out 1).trans rfl; have hcz93_2 : w92.cell? ⟨gb286, 2, none⟩ = some (.int .u8 ((rd_T30 t282 x14_1).f2)) := (blk_cell BK286.out 2).trans rfl; have hcz93_3 : w92.cell? ⟨gb286, 3, none⟩ = some (.int .u32 ((rd_T30 t282 x14_1).f3)) := (blk_cell BK286.out 3).trans rfl; have hfz93_0 := blk_frozen BK286.out 0; have hfz93_1 := blk_frozen BK286.out 1; have hfz93_2 := blk_frozen BK286.out 2; have hfz93_3 := blk_frozen BK286.out 3; have hcz94_0 : w92.cell? ⟨gb291, 0, none⟩ = some (.int .u32 ((rd_T30 t282 x49_3).f0)) := (blk_cell BK291.out 0).trans rfl; have hcz94_1 : w92.cell? ⟨gb291, 1, none⟩ = some (.string ((rd_T30 t282 x49_3).f1)) := (blk_cell BK291.out 1).trans rfl; have hcz94_2 : w92.cell? ⟨gb291, 2, none⟩ = some (.int .u8 ((rd_T30 t282 x49_3).f2)) := (blk_cell BK291.out 2).trans rfl; have hcz94_3 : w92.cell? ⟨gb291, 3, none⟩ = some (.int .u32 ((rd_T30 t282 x49_3).f3)) := (blk_cell BK291.out 3).trans rfl; have hfz94_0 := blk_frozen BK291.out 0; have hfz94_1 := blk_frozen BK291.out 1; have hfz94_2 := blk_frozen BK291.out 2; have hfz94_3 := blk_frozen BK291.out 3) | (go_at_call 12; (with_reducible refine (chart_Chart_Within.calls k3 _ _ t282 ((rd_T30 t282 x14_1).f0) ((rd_T30 t282 x49_3).f0) true _ ?side1 ?side2 A85.out).mono ?_); (case side1 => repeat (first | exact (Kd.R_reads' HO_3.out).2.2 | (with_reducible refine Kd.C_alloc ?_ _) | (with_reducible refine Kd.C_drewN ?_ _) | (with_reducible refine Kd.C_drew ?_))); (case side2 => exact (Kd.R_reads' HO_3.out).2.1); rintro e w95 ⟨rfl, hb⟩; have n0_ := Aside0.mk (Kd.R_below (by (with_reducible repeat (first | apply Kd.R_alloc | apply Kd.R_drewN | apply Kd.R_drew)); exact HO_3.out) hb); have n1_ := Aside0.mk (Kd.R_below (by (with_reducible repeat (first | apply Kd.R_alloc | apply Kd.R_drewN | apply Kd.R_drew)); exact HO_12.out) hb); have n2_ := Aside0.mk (Kd.R_below (by (with_reducible repeat (first | apply Kd.R_alloc | apply Kd.R_drewN | apply Kd.R_drew)); exact HO_47.out) hb); have n3_ := Aside0.mk (blk_below (g := gb286) (o := .cells #[.int .u32 ((rd_T30 t282 x14_1).f0), .string ((rd_T30 t282 x14_1).f1), .int .u8 ((rd_T30 t282 x14_1).f2), .int .u32 ((rd_T30 t282 x14_1).f3)] 30 (0, 0)) (by (with_reducible repeat (first | refine blk_drewN ?_ _ | refine blk_drew ?_ | refine blk_alloc ?_ _)); exact BK286.out) hb); have n4_ := Aside0.mk (blk_below (g := gb291) (o := .cells #[.int .u32 ((rd_T30 t282 x49_3).f0), .string ((rd_T30 t282 x49_3).f1), .int .u8 ((rd_T30 t282 x49_3).f2), .int .u32 ((rd_T30 t282 x49_3).f3)] 30 (0, 0)) (by (with_reducible repeat (first | refine blk_drewN ?_ _ | refine blk_drew ?_ | refine blk_alloc ?_ _)); exact BK291.out) hb); have n5_ := Aside0.mk (below_step (by repeat (first | (with_reducible first | exact HB.out | apply below_alloc | apply pw_below_drewN | apply below_drew1 | refine below_set ?_ GE286.out | refine below_set ?_ GE291.out) | exact HB.out)) hb); clear HO_3; clear HO_12; clear HO_47; clear BK286; clear BK291; clear HB; have HO_3 := n0_; have HO_12 := n1_; have HO_47 := n2_; have BK286 := n3_; have BK291 := n4_; have HB := n5_; clear n0_ n1_ n2_ n3_ n4_ n5_; (try clear hb); (try clear hb2); (try clear hk); (try clear hi); have hcz96_0 : w95.cell? ⟨gb291, 0, none⟩ = some (.int .u32 ((rd_T30 t282 x49_3).f0)) := (blk_cell BK291.out 0).trans rfl; have hcz96_1 : w95.cell? ⟨gb291, 1, none⟩ = some (.string ((rd_T30 t282 x49_3).f1)) := (blk_cell BK291.out 1).trans rfl; have hcz96_2 : w95.cell? ⟨gb291, 2, none⟩ = some (.int .u8 ((rd_T30 t282 x49_3).f2)) := (blk_cell BK291.out 2).trans rfl; have hcz96_3 : w95.cell? ⟨gb291, 3, none⟩ = some (.int .u32 ((rd_T30 t282 x49_3).f3)) := (blk_cell BK291.out 3).trans rfl; have hfz96_0 := blk_frozen BK291.out 0; have hfz96_1 := blk_frozen BK291.out 1; have hfz96_2 := blk_frozen BK291.out 2; have hfz96_3 := blk_frozen BK291.out 3; have hcz97_0 : w95.cell? ⟨gb286, 0, none⟩ = some (.int .u32 ((rd_T30 t282 x14_1).f0)) := (blk_cell BK286.out 0).trans rfl; have hcz97_1 : w95.cell? ⟨gb286, 1, none⟩ = some (.string ((rd_T30 t282 x14_1).f1)) := (blk_cell BK286.out 1).trans rfl; have hcz97_2 : w95.cell? ⟨gb286, 2, none⟩ = some (.int .u8 ((rd_T30 t282 x14_1).f2)) := (blk_cell BK286.out 2).trans rfl; have hcz97_3 : w95.cell? ⟨gb286, 3, none⟩ = some (.int .u32 ((rd_T30 t282 x14_1).f3)) := (blk_cell BK286.out 3).trans rfl; have hfz97_0 := blk_frozen BK286.out 0; have hfz97_1 := blk_frozen BK286.out 1; have hfz97_2 := blk_frozen BK286.out 2; have hfz97_3 := blk_frozen BK286.out 3) | (go_at_call 12; (with_reducible refine (chart_Chart_Within.calls k3 _ _ t282 ((rd_T30 t282 x49_3).f0) ((rd_T30 t282 x14_1).f0) true _ ?side1 ?side2 A87.out).mono ?_); (case side1 => repeat (first | exact (Kd.R_reads' HO_3.out).2.2 | (with_reducible refine Kd.C_alloc ?_ _) | (with_reducible refine Kd.C_drewN ?_ _) | (with_reducible refine Kd.C_drew ?_))); (case side2 => exact (Kd.R_reads' HO_3.out).2.1); rintro e w98 ⟨rfl, hb⟩; have n0_ := Aside0.mk (Kd.R_below (by (with_reducible repeat (first | apply Kd.R_alloc | apply Kd.R_drewN | apply Kd.R_drew)); exact HO_3.out) hb); have n1_ := Aside0.mk (Kd.R_below (by (with_reducible repeat (first | apply Kd.R_alloc | apply Kd.R_drewN | apply Kd.R_drew)); exact HO_12.out) hb); have n2_ := Aside0.mk (Kd.R_below (by (with_reducible repeat (first | apply Kd.R_alloc | apply Kd.R_drewN | apply Kd.R_drew)); exact HO_47.out) hb); have n3_ := Aside0.mk (blk_below (g := gb286) (o := .cells #[.int .u32 ((rd_T30 t282 x14_1).f0), .string ((rd_T30 t282 x14_1).f1), .int .u8 ((rd_T30 t282 x14_1).f2), .int .u32 ((rd_T30 t282 x14_1).f3)] 30 (0, 0)) (by (with_reducible repeat (first | refine blk_drewN ?_ _ | refine blk_drew ?_ | refine blk_alloc ?_ _)); exact BK286.out) hb); have n4_ := Aside0.mk (blk_below (g := gb291) (o := .cells #[.int .u32 ((rd_T30 t282 x49_3).f0), .string ((rd_T30 t282 x49_3).f1), .int .u8 ((rd_T30 t282 x49_3).f2), .int .u32 ((rd_T30 t282 x49_3).f3)] 30 (0, 0)) (by (with_reducible repeat (first | refine blk_drewN ?_ _ | refine blk_drew ?_ | refine blk_alloc ?_ _)); exact BK291.out) hb); have n5_ := Aside0.mk (below_step (by repeat (first | (with_reducible first | exact HB.out | apply below_alloc | apply pw_below_drewN | apply below_drew1 | refine below_set ?_ GE286.out | refine below_set ?_ GE291.out) | exact HB.out)) hb); clear HO_3; clear HO_12; clear HO_47; clear BK286; clear BK291; clear HB; have HO_3 := n0_; have HO_12 := n1_; have HO_47 := n2_; have BK286 := n3_; have BK291 := n4_; have HB := n5_; clear n0_ n1_ n2_ n3_ n4_ n5_; (try clear hb); (try clear hb2); (try clear hk); (try clear hi); have hcz99_0 : w98.cell? ⟨gb286, 0, none⟩ = some (.int .u32 ((rd_T30 t282 x14_1).f0)) := (blk_cell BK286.out 0).trans rfl; have hcz99_1 : w98.cell? ⟨gb286, 1, none⟩ = some (.string ((rd_T30 t282 x14_1).f1)) := (blk_cell BK286.out 1).trans rfl; have hcz99_2 : w98.cell? ⟨gb286, 2, none⟩ = some (.int .u8 ((rd_T30 t282 x14_1).f2)) := (blk_cell BK286.out 2).trans rfl; have hcz99_3 : w98.cell? ⟨gb286, 3, none⟩ = some (.int .u32 ((rd_T30 t282 x14_1).f3)) := (blk_cell BK286.out 3).trans rfl; have hfz99_0 := blk_frozen BK286.out 0; have hfz99_1 := blk_frozen BK286.out 1; have hfz99_2 := blk_frozen BK286.out 2; have hfz99_3 := blk_frozen BK286.out 3; have hcz100_0 : w98.cell? ⟨gb291, 0, none⟩ = some (.int .u32 ((rd_T30 t282 x49_3).f0)) := (blk_cell BK291.out 0).trans rfl; have hcz100_1 : w98.cell? ⟨gb291, 1, none⟩ = some (.string ((rd_T30 t282 x49_3).f1)) := (blk_cell BK291.out 1).trans rfl; have hcz100_2 : w98.cell? ⟨gb291, 2, none⟩ = some (.int .u8 ((rd_T30 t282 x49_3).f2)) := (blk_cell BK291.out 2).trans rfl; have hcz100_3 : w98.cell? ⟨gb291, 3, none⟩ = some (.int .u32 ((rd_T30 t282 x49_3).f3)) := (blk_cell BK291.out 3).trans rfl; have hfz100_0 := blk_frozen BK291.out 0; have hfz100_1 := blk_frozen BK291.out 1; have hfz100_2 := blk_frozen BK291.out 2; have hfz100_3 := blk_frozen BK291.out 3))
                   go_meet
                   case rel => exact ⟨_, ((((rd_T30 t282 x14_1).f0) != ((rd_T30 t282 x49_3).f0))), (by first | rfl | (simp; done) | (simp [*]; done)), H', ⟨by have := HK1.out; have := HJ10.out; have := HK3.out; first | omega | exact Nat.le_refl _⟩, ⟨by (with_reducible repeat (first | apply Kd.R_alloc | apply Kd.R_drewN | apply Kd.R_drew)); exact HO_3.out⟩, ⟨by (with_reducible repeat (first | apply Kd.R_alloc | apply Kd.R_drewN | apply Kd.R_drew)); exact HO_12.out⟩, ⟨by (with_reducible repeat (first | apply Kd.R_alloc | apply Kd.R_drewN | apply Kd.R_drew)); exact HO_47.out⟩, ⟨by (with_reducible repeat (first | refine blk_drewN ?_ _ | refine blk_drew ?_ | refine blk_alloc ?_ _)); exact BK286.out⟩, ⟨by (with_reducible repeat (first | refine blk_drewN ?_ _ | refine blk_drew ?_ | refine blk_alloc ?_ _)); exact BK291.out⟩, ⟨by repeat (first | (with_reducible first | exact HB.out | apply below_alloc | apply pw_below_drewN | apply below_drew1 | refine below_set ?_ GE286.out | refine below_set ?_ GE291.out) | exact HB.out)⟩⟩
                  ·replace c88 := Bool.eq_false_iff.mpr c88
                   subst c88
                   have H1 : (transposallaw06_ChartTree.j3 k3 t282 t282 (t282.length : Int) x14_1 t282 (t282.length : Int) x49_3 false ((rd_T30 t282 x14_1).f0) ((rd_T30 t282 x14_1).f1) ((rd_T30 t282 x14_1).f2) ((rd_T30 t282 x14_1).f3) ((rd_T30 t282 x49_3).f0) ((rd_T30 t282 x49_3).f1) ((rd_T30 t282 x49_3).f2) ((rd_T30 t282 x49_3).f3)) = some r := by rw [if_neg (show ¬ (false = true) by decide)] at H; exact H
                   clear H
                   have H := H1
                   clear H1
                   have H' := Aside0.mk H
                   clear H
                   have hnb101 := NB286_291.out
                   have hnc101 := NB291_286.out
                   have hcz102_0 : w40.cell? ⟨gb286, 0, none⟩ = some (.int .u32 ((rd_T30 t282 x14_1).f0)) := (blk_cell BK286.out 0).trans rfl
                   have hcz102_1 : w40.cell? ⟨gb286, 1, none⟩ = some (.string ((rd_T30 t282 x14_1).f1)) := (blk_cell BK286.out 1).trans rfl
                   have hcz102_2 : w40.cell? ⟨gb286, 2, none⟩ = some (.int .u8 ((rd_T30 t282 x14_1).f2)) := (blk_cell BK286.out 2).trans rfl
                   have hcz102_3 : w40.cell? ⟨gb286, 3, none⟩ = some (.int .u32 ((rd_T30 t282 x14_1).f3)) := (blk_cell BK286.out 3).trans rfl
                   have hfz102_0 := blk_frozen BK286.out 0
                   have hfz102_1 := blk_frozen BK286.out 1
                   have hfz102_2 := blk_frozen BK286.out 2
                   have hfz102_3 := blk_frozen BK286.out 3
                   have hcz103_0 : w40.cell? ⟨gb291, 0, none⟩ = some (.int .u32 0) := (blk_cell BK291.out 0).trans rfl
                   have hcz103_1 : w40.cell? ⟨gb291, 1, none⟩ = some (.string (⟨#[]⟩ : ByteArray)) := (blk_cell BK291.out 1).trans rfl
                   have hcz103_2 : w40.cell? ⟨gb291, 2, none⟩ = some (.int .u8 0) := (blk_cell BK291.out 2).trans rfl
                   have hcz103_3 : w40.cell? ⟨gb291, 3, none⟩ = some (.int .u32 0) := (blk_cell BK291.out 3).trans rfl
                   have hfz103_0 := blk_frozen BK291.out 0
                   have hfz103_1 := blk_frozen BK291.out 1
                   have hfz103_2 := blk_frozen BK291.out 2
                   have hfz103_3 := blk_frozen BK291.out 3
                   go_wp2_with (first | ((with_reducible refine gate_callee (f := 12) rfl ?_); refine goesL_ (some 58) rfl rfl Tryz.func12 (by kernel_rfl) rfl #[.slice (some ad285) t282.length co7, .int .u32 ((rd_T30 t282 x14_1).f0), .int .u32 ((rd_T30 t282 x49_3).f0)] rfl (by (try simp only [List.map_toArray, List.map_cons, List.map_nil]); first | done | rfl | (simp only [List.length_drop, List.length_take]; rfl)) ?_; (with_reducible refine (chart_Chart_Within.calls k3 _ _ t282 ((rd_T30 t282 x14_1).f0) ((rd_T30 t282 x49_3).f0) false _ ?side1 ?side2 A43.out).mono ?_); (case side1 => refine (Kd.R_reads' (e := 30) (base := w.heap.size) (ok := fun k_ => (k_ ≠ gb286 ∧ k_ ≠ gb291)) (n := t282.length) (c := co7) ?_).2.2; exact (by (with_reducible repeat (first | apply Kd.R_alloc | apply Kd.R_drewN | apply Kd.R_drew)); exact (Kd.R_mono (Kd.R_far (p := ⟨gb291, 3, none⟩) (Kd.R_far (p := ⟨gb291, 2, none⟩) (Kd.R_far (p := ⟨gb291, 1, none⟩) (Kd.R_far (p := ⟨gb291, 0, none⟩) (Kd.R_mono HO_3.out (fun k_ hk => (⟨hk, hk.2⟩ : _ ∧ k_ ≠ gb291))) (fun _ hk => hk.2) (.int .u32 ((rd_T30 t282 x49_3).f0))) (fun _ hk => hk.2) (.string ((rd_T30 t282 x49_3).f1))) (fun _ hk => hk.2) (.int .u8 ((rd_T30 t282 x49_3).f2))) (fun _ hk => hk.2) (.int .u32 ((rd_T30 t282 x49_3).f3))) (fun _ h_ => h_.1)))); (case side2 => exact (Kd.R_reads' HO_3.out).2.1); rintro e w104 ⟨rfl, hb⟩; refine ⟨_, rfl, ?_⟩; have n0_ := Aside0.mk (Kd.R_below (by (with_reducible repeat (first | apply Kd.R_alloc | apply Kd.R_drewN | apply Kd.R_drew)); exact (Kd.R_mono (Kd.R_far (p := ⟨gb291, 3, none⟩) (Kd.R_far (p := ⟨gb291, 2, none⟩) (Kd.R_far (p := ⟨gb291, 1, none⟩) (Kd.R_far (p := ⟨gb291, 0, none⟩) (Kd.R_mono HO_3.out (fun k_ hk => (⟨hk, hk.2⟩ : _ ∧ k_ ≠ gb291))) (fun _ hk => hk.2) (.int .u32 ((rd_T30 t282 x49_3).f0))) (fun _ hk => hk.2) (.string ((rd_T30 t282 x49_3).f1))) (fun _ hk => hk.2) (.int .u8 ((rd_T30 t282 x49_3).f2))) (fun _ hk => hk.2) (.int .u32 ((rd_T30 t282 x49_3).f3))) (fun _ h_ => h_.1))) hb); have n1_ := Aside0.mk (Kd.R_below (by (with_reducible repeat (first | apply Kd.R_alloc | apply Kd.R_drewN | apply Kd.R_drew)); exact (Kd.R_mono (Kd.R_far (p := ⟨gb291, 3, none⟩) (Kd.R_far (p := ⟨gb291, 2, none⟩) (Kd.R_far (p := ⟨gb291, 1, none⟩) (Kd.R_far (p := ⟨gb291, 0, none⟩) (Kd.R_mono HO_12.out (fun k_ hk => (⟨hk, hk.2⟩ : _ ∧ k_ ≠ gb291))) (fun _ hk => hk.2) (.int .u32 ((rd_T30 t282 x49_3).f0))) (fun _ hk => hk.2) (.string ((rd_T30 t282 x49_3).f1))) (fun _ hk => hk.2) (.int .u8 ((rd_T30 t282 x49_3).f2))) (fun _ hk => hk.2) (.int .u32 ((rd_T30 t282 x49_3).f3))) (fun _ h_ => h_.1))) hb); have n2_ := Aside0.mk (Kd.R_below (by (with_reducible repeat (first | apply Kd.R_alloc | apply Kd.R_drewN | apply Kd.R_drew)); exact (Kd.R_mono (Kd.R_far (p := ⟨gb291, 3, none⟩) (Kd.R_far (p := ⟨gb291, 2, none⟩) (Kd.R_far (p := ⟨gb291, 1, none⟩) (Kd.R_far (p := ⟨gb291, 0, none⟩) (Kd.R_mono HO_47.out (fun k_ hk => (⟨hk, hk.2⟩ : _ ∧ k_ ≠ gb291))) (fun _ hk => hk.2) (.int .u32 ((rd_T30 t282 x49_3).f0))) (fun _ hk => hk.2) (.string ((rd_T30 t282 x49_3).f1))) (fun _ hk => hk.2) (.int .u8 ((rd_T30 t282 x49_3).f2))) (fun _ hk => hk.2) (.int .u32 ((rd_T30 t282 x49_3).f3))) (fun _ h_ => h_.1))) hb); have n3_ := Aside0.mk (blk_below (g := gb286) (o := .cells #[.int .u32 ((rd_T30 t282 x14_1).f0), .string ((rd_T30 t282 x14_1).f1), .int .u8 ((rd_T30 t282 x14_1).f2), .int .u32 ((rd_T30 t282 x14_1).f3)] 30 (0, 0)) (by (with_reducible repeat (first | refine blk_drewN ?_ _ | refine blk_drew ?_ | refine blk_alloc ?_ _)); refine blk_far ?_ NB286_291.out _; (with_reducible repeat (first | refine blk_drewN ?_ _ | refine blk_drew ?_ | refine blk_alloc ?_ _)); refine blk_far ?_ NB286_291.out _; (with_reducible repeat (first | refine blk_drewN ?_ _ | refine blk_drew ?_ | refine blk_alloc ?_ _)); refine blk_far ?_ NB286_291.out _; (with_reducible repeat (first | refine blk_drewN ?_ _ | refine blk_drew ?_ | refine blk_alloc ?_ _)); refine blk_far ?_ NB286_291.out _; (with_reducible repeat (first | refine blk_drewN ?_ _ | refine blk_drew ?_ | refine blk_alloc ?_ _)); exact BK286.out) hb); have n4_ := Aside0.mk (blk_below (g := gb291) (o := .cells #[.int .u32 ((rd_T30 t282 x49_3).f0), .string ((rd_T30 t282 x49_3).f1), .int .u8 ((rd_T30 t282 x49_3).f2), .int .u32 ((rd_T30 t282 x49_3).f3)] 30 (0, 0)) (by (with_reducible repeat (first | refine blk_drewN ?_ _ | refine blk_drew ?_ | refine blk_alloc ?_ _)); refine blk_put (cs := #[.int .u32 ((rd_T30 t282 x49_3).f0), .string ((rd_T30 t282 x49_3).f1), .int .u8 ((rd_T30 t282 x49_3).f2), .int .u32 0]) ?_ 3 _ rfl; (with_reducible repeat (first | refine blk_drewN ?_ _ | refine blk_drew ?_ | refine blk_alloc ?_ _)); refine blk_put (cs := #[.int .u32 ((rd_T30 t282 x49_3).f0), .string ((rd_T30 t282 x49_3).f1), .int .u8 0, .int .u32 0]) ?_ 2 _ rfl; (with_reducible repeat (first | refine blk_drewN ?_ _ | refine blk_drew ?_ | refine blk_alloc ?_ _)); refine blk_put (cs := #[.int .u32 ((rd_T30 t282 x49_3).f0), .string (⟨#[]⟩ : ByteArray), .int .u8 0, .int .u32 0]) ?_ 1 _ rfl; (with_reducible repeat (first | refine blk_drewN ?_ _ | refine blk_drew ?_ | refine blk_alloc ?_ _)); refine blk_put (cs := #[.int .u32 0, .string (⟨#[]⟩ : ByteArray), .int .u8 0, .int .u32 0]) ?_ 0 _ rfl; (with_reducible repeat (first | refine blk_drewN ?_ _ | refine blk_drew ?_ | refine blk_alloc ?_ _)); exact BK291.out) hb); have n5_ := Aside0.mk (below_step (by repeat (first | (with_reducible first | exact HB.out | apply below_alloc | apply pw_below_drewN | apply below_drew1 | refine below_set ?_ GE286.out | refine below_set ?_ GE291.out) | exact HB.out)) hb); clear HO_3; clear HO_12; clear HO_47; clear BK286; clear BK291; clear HB; have HO_3 := n0_; have HO_12 := n1_; have HO_47 := n2_; have BK286 := n3_; have BK291 := n4_; have HB := n5_; clear n0_ n1_ n2_ n3_ n4_ n5_; (try clear hb); (try clear hb2); (try clear hk); (try clear hi); have hcz105_0 : w104.cell? ⟨gb286, 0, none⟩ = some (.int .u32 ((rd_T30 t282 x14_1).f0)) := (blk_cell BK286.out 0).trans rfl; have hcz105_1 : w104.cell? ⟨gb286, 1, none⟩ = some (.string ((rd_T30 t282 x14_1).f1)) := (blk_cell BK286.out 1).trans rfl; have hcz105_2 : w104.cell? ⟨gb286, 2, none⟩ = some (.int .u8 ((rd_T30 t282 x14_1).f2)) := (blk_cell BK286.out 2).trans rfl; have hcz105_3 : w104.cell? ⟨gb286, 3, none⟩ = some (.int .u32 ((rd_T30 t282 x14_1).f3)) := (blk_cell BK286.out 3).trans rfl; have hfz105_0 := blk_frozen BK286.out 0; have hfz105_1 := blk_frozen BK286.out 1; have hfz105_2 := blk_frozen BK286.out 2; have hfz105_3 := blk_frozen BK286.out 3; have hcz106_0 : w104.cell? ⟨gb291, 0, none⟩ = some (.int .u32 ((rd_T30 t282 x49_3).f0)) := (blk_cell BK291.out 0).trans rfl; have hcz106_1 : w104.cell? ⟨gb291, 1, none⟩ = some (.string ((rd_T30 t282 x49_3).f1)) := (blk_cell BK291.out 1).trans rfl; have hcz106_2 : w104.cell? ⟨gb291, 2, none⟩ = some (.int .u8 ((rd_T30 t282 x49_3).f2)) := (blk_cell BK291.out 2).trans rfl; have hcz106_3 : w104.cell? ⟨gb291, 3, none⟩ = some (.int .u32 ((rd_T30 t282 x49_3).f3)) := (blk_cell BK291.out 3).trans rfl; have hfz106_0 := blk_frozen BK291.out 0; have hfz106_1 := blk_frozen BK291.out 1; have hfz106_2 := blk_frozen BK291.out 2; have hfz106_3 := blk_frozen BK291.out 3) | (go_at_call 12; (with_reducible refine (chart_Chart_Within.calls k3 _ _ t282 ((rd_T30 t282 x14_1).f0) ((rd_T30 t282 x49_3).f0) true _ ?side1 ?side2 A85.out).mono ?_); (case side1 => repeat (first | exact (Kd.R_reads' HO_3.out).2.2 | (with_reducible refine Kd.C_alloc ?_ _) | (with_reducible refine Kd.C_drewN ?_ _) | (with_reducible refine Kd.C_drew ?_))); (case side2 => exact (Kd.R_reads' HO_3.out).2.1); rintro e w107 ⟨rfl, hb⟩; have n0_ := Aside0.mk (Kd.R_below (by (with_reducible repeat (first | apply Kd.R_alloc | apply Kd.R_drewN | apply Kd.R_drew)); exact HO_3.out) hb); have n1_ := Aside0.mk (Kd.R_below (by (with_reducible repeat (first | apply Kd.R_alloc | apply Kd.R_drewN | apply Kd.R_drew)); exact HO_12.out) hb); have n2_ := Aside0.mk (Kd.R_below (by (with_reducible repeat (first | apply Kd.R_alloc | apply Kd.R_drewN | apply Kd.R_drew)); exact HO_47.out) hb); have n3_ := Aside0.mk (blk_below (g := gb286) (o := .cells #[.int .u32 ((rd_T30 t282 x14_1).f0), .string ((rd_T30 t282 x14_1).f1), .int .u8 ((rd_T30 t282 x14_1).f2), .int .u32 ((rd_T30 t282 x14_1).f3)] 30 (0, 0)) (by (with_reducible repeat (first | refine blk_drewN ?_ _ | refine blk_drew ?_ | refine blk_alloc ?_ _)); exact BK286.out) hb); have n4_ := Aside0.mk (blk_below (g := gb291) (o := .cells #[.int .u32 ((rd_T30 t282 x49_3).f0), .string ((rd_T30 t282 x49_3).f1), .int .u8 ((rd_T30 t282 x49_3).f2), .int .u32 ((rd_T30 t282 x49_3).f3)] 30 (0, 0)) (by (with_reducible repeat (first | refine blk_drewN ?_ _ | refine blk_drew ?_ | refine blk_alloc ?_ _)); exact BK291.out) hb); have n5_ := Aside0.mk (below_step (by repeat (first | (with_reducible first | exact HB.out | apply below_alloc | apply pw_below_drewN | apply below_drew1 | refine below_set ?_ GE286.out | refine below_set ?_ GE291.out) | exact HB.out)) hb); clear HO_3; clear HO_12; clear HO_47; clear BK286; clear BK291; clear HB; have HO_3 := n0_; have HO_12 := n1_; have HO_47 := n2_; have BK286 := n3_; have BK291 := n4_; have HB := n5_; clear n0_ n1_ n2_ n3_ n4_ n5_; (try clear hb); (try clear hb2); (try clear hk); (try clear hi); have hcz108_0 : w107.cell? ⟨gb291, 0, none⟩ = some (.int .u32 ((rd_T30 t282 x49_3).f0)) := (blk_cell BK291.out 0).trans rfl; have hcz108_1 : w107.cell? ⟨gb291, 1, none⟩ = some (.string ((rd_T30 t282 x49_3).f1)) := (blk_cell BK291.out 1).trans rfl; have hcz108_2 : w107.cell? ⟨gb291, 2, none⟩ = some (.int .u8 ((rd_T30 t282 x49_3).f2)) := (blk_cell BK291.out 2).trans rfl; have hcz108_3 : w107.cell? ⟨gb291, 3, none⟩ = some (.int .u32 ((rd_T30 t282 x49_3).f3)) := (blk_cell BK291.out 3).trans rfl; have hfz108_0 := blk_frozen BK291.out 0; have hfz108_1 := blk_frozen BK291.out 1; have hfz108_2 := blk_frozen BK291.out 2; have hfz108_3 := blk_frozen BK291.out 3; have hcz109_0 : w107.cell? ⟨gb286, 0, none⟩ = some (.int .u32 ((rd_T30 t282 x14_1).f0)) := (blk_cell BK286.out 0).trans rfl; have hcz109_1 : w107.cell? ⟨gb286, 1, none⟩ = some (.string ((rd_T30 t282 x14_1).f1)) := (blk_cell BK286.out 1).trans rfl; have hcz109_2 : w107.cell? ⟨gb286, 2, none⟩ = some (.int .u8 ((rd_T30 t282 x14_1).f2)) := (blk_cell BK286.out 2).trans rfl; have hcz109_3 : w107.cell? ⟨gb286, 3, none⟩ = some (.int .u32 ((rd_T30 t282 x14_1).f3)) := (blk_cell BK286.out 3).trans rfl; have hfz109_0 := blk_frozen BK286.out 0; have hfz109_1 := blk_frozen BK286.out 1; have hfz109_2 := blk_frozen BK286.out 2; have hfz109_3 := blk_frozen BK286.out 3) | (go_at_call 12; (with_reducible refine (chart_Chart_Within.calls k3 _ _ t282 ((rd_T30 t282 x49_3).f0) ((rd_T30 t282 x14_1).f0) false _ ?side1 ?side2 A87.out).mono ?_); (case side1 => repeat (first | exact (Kd.R_reads' HO_3.out).2.2 | (with_reducible refine Kd.C_alloc ?_ _) | (with_reducible refine Kd.C_drewN ?_ _) | (with_reducible refine Kd.C_drew ?_))); (case side2 => exact (Kd.R_reads' HO_3.out).2.1); rintro e w110 ⟨rfl, hb⟩; have n0_ := Aside0.mk (Kd.R_below (by (with_reducible repeat (first | apply Kd.R_alloc | apply Kd.R_drewN | apply Kd.R_drew)); exact HO_3.out) hb); have n1_ := Aside0.mk (Kd.R_below (by (with_reducible repeat (first | apply Kd.R_alloc | apply Kd.R_drewN | apply Kd.R_drew)); exact HO_12.out) hb); have n2_ := Aside0.mk (Kd.R_below (by (with_reducible repeat (first | apply Kd.R_alloc | apply Kd.R_drewN | apply Kd.R_drew)); exact HO_47.out) hb); have n3_ := Aside0.mk (blk_below (g := gb286) (o := .cells #[.int .u32 ((rd_T30 t282 x14_1).f0), .string ((rd_T30 t282 x14_1).f1), .int .u8 ((rd_T30 t282 x14_1).f2), .int .u32 ((rd_T30 t282 x14_1).f3)] 30 (0, 0)) (by (with_reducible repeat (first | refine blk_drewN ?_ _ | refine blk_drew ?_ | refine blk_alloc ?_ _)); exact BK286.out) hb); have n4_ := Aside0.mk (blk_below (g := gb291) (o := .cells #[.int .u32 ((rd_T30 t282 x49_3).f0), .string ((rd_T30 t282 x49_3).f1), .int .u8 ((rd_T30 t282 x49_3).f2), .int .u32 ((rd_T30 t282 x49_3).f3)] 30 (0, 0)) (by (with_reducible repeat (first | refine blk_drewN ?_ _ | refine blk_drew ?_ | refine blk_alloc ?_ _)); exact BK291.out) hb); have n5_ := Aside0.mk (below_step (by repeat (first | (with_reducible first | exact HB.out | apply below_alloc | apply pw_below_drewN | apply below_drew1 | refine below_set ?_ GE286.out | refine below_set ?_ GE291.out) | exact HB.out)) hb); clear HO_3; clear HO_12; clear HO_47; clear BK286; clear BK291; clear HB; have HO_3 := n0_; have HO_12 := n1_; have HO_47 := n2_; have BK286 := n3_; have BK291 := n4_; have HB := n5_; clear n0_ n1_ n2_ n3_ n4_ n5_; (try clear hb); (try clear hb2); (try clear hk); (try clear hi)))
                   go_meet
                   case rel => exact ⟨_, (false), (by first | rfl | (simp; done) | (simp [*]; done)), H', ⟨by have := HK1.out; have := HJ10.out; have := HK3.out; first | omega | exact Nat.le_refl _⟩, ⟨by (with_reducible repeat (first | apply Kd.R_alloc | apply Kd.R_drewN | apply Kd.R_drew)); exact HO_3.out⟩, ⟨by (with_reducible repeat (first | apply Kd.R_alloc | apply Kd.R_drewN | apply Kd.R_drew)); exact HO_12.out⟩, ⟨by (with_reducible repeat (first | apply Kd.R_alloc | apply Kd.R_drewN | apply Kd.R_drew)); exact HO_47.out⟩, ⟨by (with_reducible repeat (first | refine blk_drewN ?_ _ | refine blk_drew ?_ | refine blk_alloc ?_ _)); exact BK286.out⟩, ⟨by (with_reducible repeat (first | refine blk_drewN ?_ _ | refine blk_drew ?_ | refine blk_alloc ?_ _)); exact BK291.out⟩, ⟨by repeat (first | (with_reducible first | exact HB.out | apply below_alloc | apply pw_below_drewN | apply below_drew1 | refine below_set ?_ GE286.out | refine below_set ?_ GE291.out) | exact HB.out)⟩⟩
                 ·replace c86 := Bool.eq_false_iff.mpr c86
                  subst c86
                  have H1 : (transposallaw06_ChartTree.j3 k3 t282 t282 (t282.length : Int) x14_1 t282 (t282.length : Int) x49_3 false ((rd_T30 t282 x14_1).f0) ((rd_T30 t282 x14_1).f1) ((rd_T30 t282 x14_1).f2) ((rd_T30 t282 x14_1).f3) ((rd_T30 t282 x49_3).f0) ((rd_T30 t282 x49_3).f1) ((rd_T30 t282 x49_3).f2) ((rd_T30 t282 x49_3).f3)) = some r := by rw [if_neg (show ¬ (false = true) by decide)] at H; exact H
                  clear H
                  have H := H1
                  clear H1
                  have H' := Aside0.mk H
                  clear H
                  have hnb111 := NB286_291.out
                  have hnc111 := NB291_286.out
                  have hcz112_0 : w40.cell? ⟨gb286, 0, none⟩ = some (.int .u32 ((rd_T30 t282 x14_1).f0)) := (blk_cell BK286.out 0).trans rfl
                  have hcz112_1 : w40.cell? ⟨gb286, 1, none⟩ = some (.string ((rd_T30 t282 x14_1).f1)) := (blk_cell BK286.out 1).trans rfl
                  have hcz112_2 : w40.cell? ⟨gb286, 2, none⟩ = some (.int .u8 ((rd_T30 t282 x14_1).f2)) := (blk_cell BK286.out 2).trans rfl
                  have hcz112_3 : w40.cell? ⟨gb286, 3, none⟩ = some (.int .u32 ((rd_T30 t282 x14_1).f3)) := (blk_cell BK286.out 3).trans rfl
                  have hfz112_0 := blk_frozen BK286.out 0
                  have hfz112_1 := blk_frozen BK286.out 1
                  have hfz112_2 := blk_frozen BK286.out 2
                  have hfz112_3 := blk_frozen BK286.out 3
                  have hcz113_0 : w40.cell? ⟨gb291, 0, none⟩ = some (.int .u32 0) := (blk_cell BK291.out 0).trans rfl
                  have hcz113_1 : w40.cell? ⟨gb291, 1, none⟩ = some (.string (⟨#[]⟩ : ByteArray)) := (blk_cell BK291.out 1).trans rfl
                  have hcz113_2 : w40.cell? ⟨gb291, 2, none⟩ = some (.int .u8 0) := (blk_cell BK291.out 2).trans rfl
                  have hcz113_3 : w40.cell? ⟨gb291, 3, none⟩ = some (.int .u32 0) := (blk_cell BK291.out 3).trans rfl
                  have hfz113_0 := blk_frozen BK291.out 0
                  have hfz113_1 := blk_frozen BK291.out 1
                  have hfz113_2 := blk_frozen BK291.out 2
                  have hfz113_3 := blk_frozen BK291.out 3
                  go_wp2_with (first | ((with_reducible refine gate_callee (f := 12) rfl ?_); refine goesL_ (some 58) rfl rfl Tryz.func12 (by kernel_rfl) rfl #[.slice (some ad285) t282.length co7, .int .u32 ((rd_T30 t282 x14_1).f0), .int .u32 ((rd_T30 t282 x49_3).f0)] rfl (by (try simp only [List.map_toArray, List.map_cons, List.map_nil]); first | done | rfl | (simp only [List.length_drop, List.length_take]; rfl)) ?_; (with_reducible refine (chart_Chart_Within.calls k3 _ _ t282 ((rd_T30 t282 x14_1).f0) ((rd_T30 t282 x49_3).f0) false _ ?side1 ?side2 A43.out).mono ?_); (case side1 => refine (Kd.R_reads' (e := 30) (base := w.heap.size) (ok := fun k_ => (k_ ≠ gb286 ∧ k_ ≠ gb291)) (n := t282.length) (c := co7) ?_).2.2; exact (by (with_reducible repeat (first | apply Kd.R_alloc | apply Kd.R_drewN | apply Kd.R_drew)); exact (Kd.R_mono (Kd.R_far (p := ⟨gb291, 3, none⟩) (Kd.R_far (p := ⟨gb291, 2, none⟩) (Kd.R_far (p := ⟨gb291, 1, none⟩) (Kd.R_far (p := ⟨gb291, 0, none⟩) (Kd.R_mono HO_3.out (fun k_ hk => (⟨hk, hk.2⟩ : _ ∧ k_ ≠ gb291))) (fun _ hk => hk.2) (.int .u32 ((rd_T30 t282 x49_3).f0))) (fun _ hk => hk.2) (.string ((rd_T30 t282 x49_3).f1))) (fun _ hk => hk.2) (.int .u8 ((rd_T30 t282 x49_3).f2))) (fun _ hk => hk.2) (.int .u32 ((rd_T30 t282 x49_3).f3))) (fun _ h_ => h_.1)))); (case side2 => exact (Kd.R_reads' HO_3.out).2.1); rintro e w114 ⟨rfl, hb⟩; refine ⟨_, rfl, ?_⟩; have n0_ := Aside0.mk (Kd.R_below (by (with_reducible repeat (first | apply Kd.R_alloc | apply Kd.R_drewN | apply Kd.R_drew)); exact (Kd.R_mono (Kd.R_far (p := ⟨gb291, 3, none⟩) (Kd.R_far (p := ⟨gb291, 2, none⟩) (Kd.R_far (p := ⟨gb291, 1, none⟩) (Kd.R_far (p := ⟨gb291, 0, none⟩) (Kd.R_mono HO_3.out (fun k_ hk => (⟨hk, hk.2⟩ : _ ∧ k_ ≠ gb291))) (fun _ hk => hk.2) (.int .u32 ((rd_T30 t282 x49_3).f0))) (fun _ hk => hk.2) (.string ((rd_T30 t282 x49_3).f1))) (fun _ hk => hk.2) (.int .u8 ((rd_T30 t282 x49_3).f2))) (fun _ hk => hk.2) (.int .u32 ((rd_T30 t282 x49_3).f3))) (fun _ h_ => h_.1))) hb); have n1_ := Aside0.mk (Kd.R_below (by (with_reducible repeat (first | apply Kd.R_alloc | apply Kd.R_drewN | apply Kd.R_drew)); exact (Kd.R_mono (Kd.R_far (p := ⟨gb291, 3, none⟩) (Kd.R_far (p := ⟨gb291, 2, none⟩) (Kd.R_far (p := ⟨gb291, 1, none⟩) (Kd.R_far (p := ⟨gb291, 0, none⟩) (Kd.R_mono HO_12.out (fun k_ hk => (⟨hk, hk.2⟩ : _ ∧ k_ ≠ gb291))) (fun _ hk => hk.2) (.int .u32 ((rd_T30 t282 x49_3).f0))) (fun _ hk => hk.2) (.string ((rd_T30 t282 x49_3).f1))) (fun _ hk => hk.2) (.int .u8 ((rd_T30 t282 x49_3).f2))) (fun _ hk => hk.2) (.int .u32 ((rd_T30 t282 x49_3).f3))) (fun _ h_ => h_.1))) hb); have n2_ := Aside0.mk (Kd.R_below (by (with_reducible repeat (first | apply Kd.R_alloc | apply Kd.R_drewN | apply Kd.R_drew)); exact (Kd.R_mono (Kd.R_far (p := ⟨gb291, 3, none⟩) (Kd.R_far (p := ⟨gb291, 2, none⟩) (Kd.R_far (p := ⟨gb291, 1, none⟩) (Kd.R_far (p := ⟨gb291, 0, none⟩) (Kd.R_mono HO_47.out (fun k_ hk => (⟨hk, hk.2⟩ : _ ∧ k_ ≠ gb291))) (fun _ hk => hk.2) (.int .u32 ((rd_T30 t282 x49_3).f0))) (fun _ hk => hk.2) (.string ((rd_T30 t282 x49_3).f1))) (fun _ hk => hk.2) (.int .u8 ((rd_T30 t282 x49_3).f2))) (fun _ hk => hk.2) (.int .u32 ((rd_T30 t282 x49_3).f3))) (fun _ h_ => h_.1))) hb); have n3_ := Aside0.mk (blk_below (g := gb286) (o := .cells #[.int .u32 ((rd_T30 t282 x14_1).f0), .string ((rd_T30 t282 x14_1).f1), .int .u8 ((rd_T30 t282 x14_1).f2), .int .u32 ((rd_T30 t282 x14_1).f3)] 30 (0, 0)) (by (with_reducible repeat (first | refine blk_drewN ?_ _ | refine blk_drew ?_ | refine blk_alloc ?_ _)); refine blk_far ?_ NB286_291.out _; (with_reducible repeat (first | refine blk_drewN ?_ _ | refine blk_drew ?_ | refine blk_alloc ?_ _)); refine blk_far ?_ NB286_291.out _; (with_reducible repeat (first | refine blk_drewN ?_ _ | refine blk_drew ?_ | refine blk_alloc ?_ _)); refine blk_far ?_ NB286_291.out _; (with_reducible repeat (first | refine blk_drewN ?_ _ | refine blk_drew ?_ | refine blk_alloc ?_ _)); refine blk_far ?_ NB286_291.out _; (with_reducible repeat (first | refine blk_drewN ?_ _ | refine blk_drew ?_ | refine blk_alloc ?_ _)); exact BK286.out) hb); have n4_ := Aside0.mk (blk_below (g := gb291) (o := .cells #[.int .u32 ((rd_T30 t282 x49_3).f0), .string ((rd_T30 t282 x49_3).f1), .int .u8 ((rd_T30 t282 x49_3).f2), .int .u32 ((rd_T30 t282 x49_3).f3)] 30 (0, 0)) (by (with_reducible repeat (first | refine blk_drewN ?_ _ | refine blk_drew ?_ | refine blk_alloc ?_ _)); refine blk_put (cs := #[.int .u32 ((rd_T30 t282 x49_3).f0), .string ((rd_T30 t282 x49_3).f1), .int .u8 ((rd_T30 t282 x49_3).f2), .int .u32 0]) ?_ 3 _ rfl; (with_reducible repeat (first | refine blk_drewN ?_ _ | refine blk_drew ?_ | refine blk_alloc ?_ _)); refine blk_put (cs := #[.int .u32 ((rd_T30 t282 x49_3).f0), .string ((rd_T30 t282 x49_3).f1), .int .u8 0, .int .u32 0]) ?_ 2 _ rfl; (with_reducible repeat (first | refine blk_drewN ?_ _ | refine blk_drew ?_ | refine blk_alloc ?_ _)); refine blk_put (cs := #[.int .u32 ((rd_T30 t282 x49_3).f0), .string (⟨#[]⟩ : ByteArray), .int .u8 0, .int .u32 0]) ?_ 1 _ rfl; (with_reducible repeat (first | refine blk_drewN ?_ _ | refine blk_drew ?_ | refine blk_alloc ?_ _)); refine blk_put (cs := #[.int .u32 0, .string (⟨#[]⟩ : ByteArray), .int .u8 0, .int .u32 0]) ?_ 0 _ rfl; (with_reducible repeat (first | refine blk_drewN ?_ _ | refine blk_drew ?_ | refine blk_alloc ?_ _)); exact BK291.out) hb); have n5_ := Aside0.mk (below_step (by repeat (first | (with_reducible first | exact HB.out | apply below_alloc | apply pw_below_drewN | apply below_drew1 | refine below_set ?_ GE286.out | refine below_set ?_ GE291.out) | exact HB.out)) hb); clear HO_3; clear HO_12; clear HO_47; clear BK286; clear BK291; clear HB; have HO_3 := n0_; have HO_12 := n1_; have HO_47 := n2_; have BK286 := n3_; have BK291 := n4_; have HB := n5_; clear n0_ n1_ n2_ n3_ n4_ n5_; (try clear hb); (try clear hb2); (try clear hk); (try clear hi); have hcz115_0 : w114.cell? ⟨gb286, 0, none⟩ = some (.int .u32 ((rd_T30 t282 x14_1).f0)) := (blk_cell BK286.out 0).trans rfl; have hcz115_1 : w114.cell? ⟨gb286, 1, none⟩ = some (.string ((rd_T30 t282 x14_1).f1)) := (blk_cell BK286.out 1).trans rfl; have hcz115_2 : w114.cell? ⟨gb286, 2, none⟩ = some (.int .u8 ((rd_T30 t282 x14_1).f2)) := (blk_cell BK286.out 2).trans rfl; have hcz115_3 : w114.cell? ⟨gb286, 3, none⟩ = some (.int .u32 ((rd_T30 t282 x14_1).f3)) := (blk_cell BK286.out 3).trans rfl; have hfz115_0 := blk_frozen BK286.out 0; have hfz115_1 := blk_frozen BK286.out 1; have hfz115_2 := blk_frozen BK286.out 2; have hfz115_3 := blk_frozen BK286.out 3; have hcz116_0 : w114.cell? ⟨gb291, 0, none⟩ = some (.int .u32 ((rd_T30 t282 x49_3).f0)) := (blk_cell BK291.out 0).trans rfl; have hcz116_1 : w114.cell? ⟨gb291, 1, none⟩ = some (.string ((rd_T30 t282 x49_3).f1)) := (blk_cell BK291.out 1).trans rfl; have hcz116_2 : w114.cell? ⟨gb291, 2, none⟩ = some (.int .u8 ((rd_T30 t282 x49_3).f2)) := (blk_cell BK291.out 2).trans rfl; have hcz116_3 : w114.cell? ⟨gb291, 3, none⟩ = some (.int .u32 ((rd_T30 t282 x49_3).f3)) := (blk_cell BK291.out 3).trans rfl; have hfz116_0 := blk_frozen BK291.out 0; have hfz116_1 := blk_frozen BK291.out 1; have hfz116_2 := blk_frozen BK291.out 2; have hfz116_3 := blk_frozen BK291.out 3) | (go_at_call 12; (with_reducible refine (chart_Chart_Within.calls k3 _ _ t282 ((rd_T30 t282 x14_1).f0) ((rd_T30 t282 x49_3).f0) false _ ?side1 ?side2 A85.out).mono ?_); (case side1 => repeat (first | exact (Kd.R_reads' HO_3.out).2.2 | (with_reducible refine Kd.C_alloc ?_ _) | (with_reducible refine Kd.C_drewN ?_ _) | (with_reducible refine Kd.C_drew ?_))); (case side2 => exact (Kd.R_reads' HO_3.out).2.1); rintro e w117 ⟨rfl, hb⟩; have n0_ := Aside0.mk (Kd.R_below (by (with_reducible repeat (first | apply Kd.R_alloc | apply Kd.R_drewN | apply Kd.R_drew)); exact HO_3.out) hb); have n1_ := Aside0.mk (Kd.R_below (by (with_reducible repeat (first | apply Kd.R_alloc | apply Kd.R_drewN | apply Kd.R_drew)); exact HO_12.out) hb); have n2_ := Aside0.mk (Kd.R_below (by (with_reducible repeat (first | apply Kd.R_alloc | apply Kd.R_drewN | apply Kd.R_drew)); exact HO_47.out) hb); have n3_ := Aside0.mk (blk_below (g := gb286) (o := .cells #[.int .u32 ((rd_T30 t282 x14_1).f0), .string ((rd_T30 t282 x14_1).f1), .int .u8 ((rd_T30 t282 x14_1).f2), .int .u32 ((rd_T30 t282 x14_1).f3)] 30 (0, 0)) (by (with_reducible repeat (first | refine blk_drewN ?_ _ | refine blk_drew ?_ | refine blk_alloc ?_ _)); exact BK286.out) hb); have n4_ := Aside0.mk (blk_below (g := gb291) (o := .cells #[.int .u32 ((rd_T30 t282 x49_3).f0), .string ((rd_T30 t282 x49_3).f1), .int .u8 ((rd_T30 t282 x49_3).f2), .int .u32 ((rd_T30 t282 x49_3).f3)] 30 (0, 0)) (by (with_reducible repeat (first | refine blk_drewN ?_ _ | refine blk_drew ?_ | refine blk_alloc ?_ _)); exact BK291.out) hb); have n5_ := Aside0.mk (below_step (by repeat (first | (with_reducible first | exact HB.out | apply below_alloc | apply pw_below_drewN | apply below_drew1 | refine below_set ?_ GE286.out | refine below_set ?_ GE291.out) | exact HB.out)) hb); clear HO_3; clear HO_12; clear HO_47; clear BK286; clear BK291; clear HB; have HO_3 := n0_; have HO_12 := n1_; have HO_47 := n2_; have BK286 := n3_; have BK291 := n4_; have HB := n5_; clear n0_ n1_ n2_ n3_ n4_ n5_; (try clear hb); (try clear hb2); (try clear hk); (try clear hi)))
                  go_meet
                  case rel => exact ⟨_, (false), (by first | rfl | (simp; done) | (simp [*]; done)), H', ⟨by have := HK1.out; have := HJ10.out; have := HK3.out; first | omega | exact Nat.le_refl _⟩, ⟨by (with_reducible repeat (first | apply Kd.R_alloc | apply Kd.R_drewN | apply Kd.R_drew)); exact HO_3.out⟩, ⟨by (with_reducible repeat (first | apply Kd.R_alloc | apply Kd.R_drewN | apply Kd.R_drew)); exact HO_12.out⟩, ⟨by (with_reducible repeat (first | apply Kd.R_alloc | apply Kd.R_drewN | apply Kd.R_drew)); exact HO_47.out⟩, ⟨by (with_reducible repeat (first | refine blk_drewN ?_ _ | refine blk_drew ?_ | refine blk_alloc ?_ _)); exact BK286.out⟩, ⟨by (with_reducible repeat (first | refine blk_drewN ?_ _ | refine blk_drew ?_ | refine blk_alloc ?_ _)); exact BK291.out⟩, ⟨by repeat (first | (with_reducible first | exact HB.out | apply below_alloc | apply pw_below_drewN | apply below_drew1 | refine below_set ?_ GE286.out | refine below_set ?_ GE291.out) | exact HB.out)⟩⟩
               case rest =>
                clear HC39
                try clear c1
                try clear c2
                try clear p2
                try clear q2
                try clear hx2
                try clear c3
                try clear c4
                try clear c5
                try clear c6
                try clear c7
                try clear c8
                try clear c8b0
                try clear c9
                try clear c9b0
                try clear c10
                try clear c10b0
                try clear c11
                try clear c12
                try clear c15
                try clear c16
                try clear c16b0
                try clear c16b1
                try clear c21
                try clear p28
                try clear q28
                try clear hx28
                try clear p29
                try clear q29
                try clear hx29
                try clear c35
                try clear c36
                try clear c36b0
                try clear c37
                try clear c37b0
                try clear c38
                try clear c38b0
                try clear c41
                try clear c44
                try clear c45
                try clear c45b0
                try clear c45b1
                try clear c47
                try clear c49
                try clear c50
                try clear c62
                try clear c72
                try clear c79
                try clear c86
                try clear c88
                try clear c89
                try clear c101
                try clear c111
                try clear hcz100_0
                try clear hcz100_1
                try clear hcz100_2
                try clear hcz100_3
                try clear hcz102_0
                try clear hcz102_1
                try clear hcz102_2
                try clear hcz102_3
                try clear hcz103_0
                try clear hcz103_1
                try clear hcz103_2
                try clear hcz103_3
                try clear hcz105_0
                try clear hcz105_1
                try clear hcz105_2
                try clear hcz105_3
                try clear hcz106_0
                try clear hcz106_1
                try clear hcz106_2
                try clear hcz106_3
                try clear hcz108_0
                try clear hcz108_1
                try clear hcz108_2
                try clear hcz108_3
                try clear hcz109_0
                try clear hcz109_1
                try clear hcz109_2
                try clear hcz109_3
                try clear hcz112_0
                try clear hcz112_1
                try clear hcz112_2
                try clear hcz112_3
                try clear hcz113_0
                try clear hcz113_1
                try clear hcz113_2
                try clear hcz113_3
                try clear hcz115_0
                try clear hcz115_1
                try clear hcz115_2
                try clear hcz115_3
                try clear hcz116_0
                try clear hcz116_1
                try clear hcz116_2
                try clear hcz116_3
                try clear hcz13_0
                try clear hcz13_1
                try clear hcz13_2
                try clear hcz13_3
                try clear hcz17_0
                try clear hcz17_1
                try clear hcz17_2
                try clear hcz17_3
                try clear hcz19_0
                try clear hcz19_1
                try clear hcz19_2
                try clear hcz19_3
                try clear hcz23_0
                try clear hcz23_1
                try clear hcz23_2
                try clear hcz23_3
                try clear hcz25_0
                try clear hcz25_1
                try clear hcz25_2
                try clear hcz25_3
                try clear hcz27_0
                try clear hcz27_1
                try clear hcz27_2
                try clear hcz27_3
                try clear hcz29_0
                try clear hcz29_1
                try clear hcz29_2
                try clear hcz29_3
                try clear hcz31_0
                try clear hcz31_1
                try clear hcz31_2
                try clear hcz31_3
                try clear hcz33_0
                try clear hcz33_1
                try clear hcz33_2
                try clear hcz33_3
                try clear hcz42_0
                try clear hcz42_1
                try clear hcz42_2
                try clear hcz42_3
                try clear hcz51_0
                try clear hcz51_1
                try clear hcz51_2
                try clear hcz51_3
                try clear hcz52_0
                try clear hcz52_1
                try clear hcz52_2
                try clear hcz52_3
                try clear hcz54_0
                try clear hcz54_1
                try clear hcz54_2
                try clear hcz54_3
                try clear hcz55_0
                try clear hcz55_1
                try clear hcz55_2
                try clear hcz55_3
                try clear hcz57_0
                try clear hcz57_1
                try clear hcz57_2
                try clear hcz57_3
                try clear hcz58_0
                try clear hcz58_1
                try clear hcz58_2
                try clear hcz58_3
                try clear hcz60_0
                try clear hcz60_1
                try clear hcz60_2
                try clear hcz60_3
                try clear hcz61_0
                try clear hcz61_1
                try clear hcz61_2
                try clear hcz61_3
                try clear hcz63_0
                try clear hcz63_1
                try clear hcz63_2
                try clear hcz63_3
                try clear hcz64_0
                try clear hcz64_1
                try clear hcz64_2
                try clear hcz64_3
                try clear hcz66_0
                try clear hcz66_1
                try clear hcz66_2
                try clear hcz66_3
                try clear hcz67_0
                try clear hcz67_1
                try clear hcz67_2
                try clear hcz67_3
                try clear hcz69_0
                try clear hcz69_1
                try clear hcz69_2
                try clear hcz69_3
                try clear hcz70_0
                try clear hcz70_1
                try clear hcz70_2
                try clear hcz70_3
                try clear hcz73_0
                try clear hcz73_1
                try clear hcz73_2
                try clear hcz73_3
                try clear hcz74_0
                try clear hcz74_1
                try clear hcz74_2
                try clear hcz74_3
                try clear hcz76_0
                try clear hcz76_1
                try clear hcz76_2
                try clear hcz76_3
                try clear hcz77_0
                try clear hcz77_1
                try clear hcz77_2
                try clear hcz77_3
                try clear hcz80_0
                try clear hcz80_1
                try clear hcz80_2
                try clear hcz80_3
                try clear hcz81_0
                try clear hcz81_1
                try clear hcz81_2
                try clear hcz81_3
                try clear hcz83_0
                try clear hcz83_1
                try clear hcz83_2
                try clear hcz83_3
                try clear hcz84_0
                try clear hcz84_1
                try clear hcz84_2
                try clear hcz84_3
                try clear hcz90_0
                try clear hcz90_1
                try clear hcz90_2
                try clear hcz90_3
                try clear hcz91_0
                try clear hcz91_1
                try clear hcz91_2
                try clear hcz91_3
                try clear hcz93_0
                try clear hcz93_1
                try clear hcz93_2
                try clear hcz93_3
                try clear hcz94_0
                try clear hcz94_1
                try clear hcz94_2
                try clear hcz94_3
                try clear hcz96_0
                try clear hcz96_1
                try clear hcz96_2
                try clear hcz96_3
                try clear hcz97_0
                try clear hcz97_1
                try clear hcz97_2
                try clear hcz97_3
                try clear hcz99_0
                try clear hcz99_1
                try clear hcz99_2
                try clear hcz99_3
                try clear hfz100_0
                try clear hfz100_1
                try clear hfz100_2
                try clear hfz100_3
                try clear hfz102_0
                try clear hfz102_1
                try clear hfz102_2
                try clear hfz102_3
                try clear hfz103_0
                try clear hfz103_1
                try clear hfz103_2
                try clear hfz103_3
                try clear hfz105_0
                try clear hfz105_1
                try clear hfz105_2
                try clear hfz105_3
                try clear hfz106_0
                try clear hfz106_1
                try clear hfz106_2
                try clear hfz106_3
                try clear hfz108_0
                try clear hfz108_1
                try clear hfz108_2
                try clear hfz108_3
                try clear hfz109_0
                try clear hfz109_1
                try clear hfz109_2
                try clear hfz109_3
                try clear hfz112_0
                try clear hfz112_1
                try clear hfz112_2
                try clear hfz112_3
                try clear hfz113_0
                try clear hfz113_1
                try clear hfz113_2
                try clear hfz113_3
                try clear hfz115_0
                try clear hfz115_1
                try clear hfz115_2
                try clear hfz115_3
                try clear hfz116_0
                try clear hfz116_1
                try clear hfz116_2
                try clear hfz116_3
                try clear hfz13_0
                try clear hfz13_1
                try clear hfz13_2
                try clear hfz13_3
                try clear hfz17_0
                try clear hfz17_1
                try clear hfz17_2
                try clear hfz17_3
                try clear hfz19_0
                try clear hfz19_1
                try clear hfz19_2
                try clear hfz19_3
                try clear hfz23_0
                try clear hfz23_1
                try clear hfz23_2
                try clear hfz23_3
                try clear hfz25_0
                try clear hfz25_1
                try clear hfz25_2
                try clear hfz25_3
                try clear hfz27_0
                try clear hfz27_1
                try clear hfz27_2
                try clear hfz27_3
                try clear hfz29_0
                try clear hfz29_1
                try clear hfz29_2
                try clear hfz29_3
                try clear hfz31_0
                try clear hfz31_1
                try clear hfz31_2
                try clear hfz31_3
                try clear hfz33_0
                try clear hfz33_1
                try clear hfz33_2
                try clear hfz33_3
                try clear hfz42_0
                try clear hfz42_1
                try clear hfz42_2
                try clear hfz42_3
                try clear hfz51_0
                try clear hfz51_1
                try clear hfz51_2
                try clear hfz51_3
                try clear hfz52_0
                try clear hfz52_1
                try clear hfz52_2
                try clear hfz52_3
                try clear hfz54_0
                try clear hfz54_1
                try clear hfz54_2
                try clear hfz54_3
                try clear hfz55_0
                try clear hfz55_1
                try clear hfz55_2
                try clear hfz55_3
                try clear hfz57_0
                try clear hfz57_1
                try clear hfz57_2
                try clear hfz57_3
                try clear hfz58_0
                try clear hfz58_1
                try clear hfz58_2
                try clear hfz58_3
                try clear hfz60_0
                try clear hfz60_1
                try clear hfz60_2
                try clear hfz60_3
                try clear hfz61_0
                try clear hfz61_1
                try clear hfz61_2
                try clear hfz61_3
                try clear hfz63_0
                try clear hfz63_1
                try clear hfz63_2
                try clear hfz63_3
                try clear hfz64_0
                try clear hfz64_1
                try clear hfz64_2
                try clear hfz64_3
                try clear hfz66_0
                try clear hfz66_1
                try clear hfz66_2
                try clear hfz66_3
                try clear hfz67_0
                try clear hfz67_1
                try clear hfz67_2
                try clear hfz67_3
                try clear hfz69_0
                try clear hfz69_1
                try clear hfz69_2
                try clear hfz69_3
                try clear hfz70_0
                try clear hfz70_1
                try clear hfz70_2
                try clear hfz70_3
                try clear hfz73_0
                try clear hfz73_1
                try clear hfz73_2
                try clear hfz73_3
                try clear hfz74_0
                try clear hfz74_1
                try clear hfz74_2
                try clear hfz74_3
                try clear hfz76_0
                try clear hfz76_1
                try clear hfz76_2
                try clear hfz76_3
                try clear hfz77_0
                try clear hfz77_1
                try clear hfz77_2
                try clear hfz77_3
                try clear hfz80_0
                try clear hfz80_1
                try clear hfz80_2
                try clear hfz80_3
                try clear hfz81_0
                try clear hfz81_1
                try clear hfz81_2
                try clear hfz81_3
                try clear hfz83_0
                try clear hfz83_1
                try clear hfz83_2
                try clear hfz83_3
                try clear hfz84_0
                try clear hfz84_1
                try clear hfz84_2
                try clear hfz84_3
                try clear hfz90_0
                try clear hfz90_1
                try clear hfz90_2
                try clear hfz90_3
                try clear hfz91_0
                try clear hfz91_1
                try clear hfz91_2
                try clear hfz91_3
                try clear hfz93_0
                try clear hfz93_1
                try clear hfz93_2
                try clear hfz93_3
                try clear hfz94_0
                try clear hfz94_1
                try clear hfz94_2
                try clear hfz94_3
                try clear hfz96_0
                try clear hfz96_1
                try clear hfz96_2
                try clear hfz96_3
                try clear hfz97_0
                try clear hfz97_1
                try clear hfz97_2
                try clear hfz97_3
                try clear hfz99_0
                try clear hfz99_1
                try clear hfz99_2
                try clear hfz99_3
                try clear hx285_0
                try clear hx285_1
                try clear hx285_2
                try clear hx285_3
                try clear hx290_0
                try clear hx290_1
                try clear hx290_2
                try clear hx290_3
                try clear p2
                try clear p28
                try clear p285
                try clear p290
                try clear q2
                try clear q28
                try clear q285
                try clear q290
                obtain ⟨kq, x88_38, rfl, HA, HJ38, HO_3, HO_12, HO_47, BK286, BK291, HB⟩ := hcut
                cases kq with
                | zero => exact absurd HA.out (by simp [transposallaw06_ChartTree.j3])
                | succ kj38 =>
                 have H := HA.out
                 clear HA
                 simp only [transposallaw06_ChartTree.j3] at H
                 by_cases c118 : x88_38 = true
                 ·subst c118
                  have H1 : (some false) = some r := by rw [if_pos rfl] at H; exact H
                  clear H
                  have H := H1
                  clear H1
                  obtain rfl := Option.some.inj H
                  go_wp2
                  go_ret
                  exact ⟨by first | rfl | (simp [errW_none, errW_some] <;> rfl) | (simp [*, errW_none, errW_some] <;> rfl), by repeat (first | (with_reducible first | exact HB.out | apply below_alloc | apply pw_below_drewN | apply below_drew1 | refine below_set ?_ GE286.out | refine below_set ?_ GE291.out) | exact HB.out)⟩
                 ·replace c118 := Bool.eq_false_iff.mpr c118
                  subst c118
                  have H1 : (if ((rd_T30 t282 x14_1).f0) = ((rd_T30 t282 x49_3).f0) then (transposallaw06_ChartTree.j4 kj38 t282 t282 (t282.length : Int) x14_1 t282 (t282.length : Int) x49_3 false ((rd_T30 t282 x14_1).f0) ((rd_T30 t282 x14_1).f1) ((rd_T30 t282 x14_1).f2) ((rd_T30 t282 x14_1).f3)) else ((chart_Chart_Within.f kj38 t282 ((rd_T30 t282 x14_1).f0) ((rd_T30 t282 x49_3).f0)).bind fun t297 => (if ((rd_T30 t282 x14_1).f3) = 0 then (transposallaw06_ChartTree.j4 kj38 t282 t282 (t282.length : Int) x14_1 t282 (t282.length : Int) x49_3 (t297 != false) ((rd_T30 t282 x14_1).f0) ((rd_T30 t282 x14_1).f1) ((rd_T30 t282 x14_1).f2) ((rd_T30 t282 x14_1).f3)) else ((chart_Chart_Within.f kj38 t282 ((rd_T30 t282 x14_1).f3) ((rd_T30 t282 x49_3).f0)).bind fun t298 => (transposallaw06_ChartTree.j4 kj38 t282 t282 (t282.length : Int) x14_1 t282 (t282.length : Int) x49_3 (t297 != t298) ((rd_T30 t282 x14_1).f0) ((rd_T30 t282 x14_1).f1) ((rd_T30 t282 x14_1).f2) ((rd_T30 t282 x14_1).f3)))))) = some r := by rw [if_neg (show ¬ (false = true) by decide)] at H; exact H
                  clear H
                  have H := H1
                  clear H1
                  have HC119 := Aside0.mk H
                  clear H
                  go_upto_region 14 with (fail)
                  go_cut [113] (fun v113 wc => ∃ (kq : Nat) (x113_118 : Bool), v113 = .bool x113_118 ∧ Aside0 (transposallaw06_ChartTree.j4 kq t282 t282 (t282.length : Int) x14_1 t282 (t282.length : Int) x49_3 x113_118 ((rd_T30 t282 x14_1).f0) ((rd_T30 t282 x14_1).f1) ((rd_T30 t282 x14_1).f2) ((rd_T30 t282 x14_1).f3) = some r) ∧ Aside0 (kq ≤ kj38) ∧ Aside0 (Kd.R k30 30 wc w.heap.size (fun k_ => k_ ≠ gb286 ∧ k_ ≠ gb291) (.slice (some ad285) t282.length co7) t282) ∧ Aside0 (Kd.R k30 30 wc w.heap.size (fun k_ => k_ ≠ gb286 ∧ k_ ≠ gb291) (.slice (some ad285) t282.length co7) t282) ∧ Aside0 (Kd.R k30 30 wc w.heap.size (fun k_ => k_ ≠ gb286 ∧ k_ ≠ gb291) (.slice (some ad285) t282.length co7) t282) ∧ Aside0 (wc.heap[gb286]? = some (.cells #[.int .u32 ((rd_T30 t282 x14_1).f0), .string ((rd_T30 t282 x14_1).f1), .int .u8 ((rd_T30 t282 x14_1).f2), .int .u32 ((rd_T30 t282 x14_1).f3)] 30 (0, 0))) ∧ Aside0 (wc.heap[gb291]? = some (.cells #[.int .u32 ((rd_T30 t282 x49_3).f0), .string ((rd_T30 t282 x49_3).f1), .int .u8 ((rd_T30 t282 x49_3).f2), .int .u32 ((rd_T30 t282 x49_3).f3)] 30 (0, 0))) ∧ Aside0 (Below w.heap.size w wc))
                  case first =>
                   have H := HC119.out
                   clear HC119
                   by_cases c120 : ((rd_T30 t282 x14_1).f0) = ((rd_T30 t282 x49_3).f0)
                   ·rw [if_pos c120] at H
                    have c120b0 : (((rd_T30 t282 x14_1).f0) == ((rd_T30 t282 x49_3).f0)) = true := beq_iff_eq.mpr c120
                    have c120b1 : (((rd_T30 t282 x14_1).f0) != ((rd_T30 t282 x49_3).f0)) = false := bne_eq_false_iff_eq.mpr c120
                    clear c120
                    (first | rw [c120b0] | (simp only [i64_w, i32_w]; rw [c120b0]) | skip)
                    have H' := Aside0.mk H
                    clear H
                    try go_wp2
                    have n0_ := Aside0.mk (Kd.R_drew HO_3.out)
                    have n1_ := Aside0.mk (Kd.R_drew HO_12.out)
                    have n2_ := Aside0.mk (Kd.R_drew HO_47.out)
                    have n3_ := Aside0.mk (blk_drew BK286.out)
                    have n4_ := Aside0.mk (blk_drew BK291.out)
                    have n5_ := Aside0.mk (below_drew1 HB.out)
                    clear HO_3
                    clear HO_12
                    clear HO_47
                    clear BK286
                    clear BK291
                    clear HB
                    have HO_3 := n0_
                    have HO_12 := n1_
                    have HO_47 := n2_
                    have BK286 := n3_
                    have BK291 := n4_
                    have HB := n5_
                    clear n0_ n1_ n2_ n3_ n4_ n5_
                    refine start_ (n := 25) (S := fun w' => w'.cell? ⟨gb286, 0, none⟩ = some (.int .u32 ((rd_T30 t282 x14_1).f0)) ∧ w'.cell? ⟨gb286, 1, none⟩ = some (.string ((rd_T30 t282 x14_1).f1)) ∧ w'.cell? ⟨gb286, 2, none⟩ = some (.int .u8 ((rd_T30 t282 x14_1).f2)) ∧ w'.cell? ⟨gb286, 3, none⟩ = some (.int .u32 ((rd_T30 t282 x14_1).f3)) ∧ w'.cell? ⟨gb291, 0, none⟩ = some (.int .u32 ((rd_T30 t282 x49_3).f0)) ∧ w'.cell? ⟨gb291, 1, none⟩ = some (.string ((rd_T30 t282 x49_3).f1)) ∧ w'.cell? ⟨gb291, 2, none⟩ = some (.int .u8 ((rd_T30 t282 x49_3).f2)) ∧ w'.cell? ⟨gb291, 3, none⟩ = some (.int .u32 ((rd_T30 t282 x49_3).f3))) (ds := []) #[false, false, false, false, false, false, false, false, false, false, false, false, false, false, false, false, false, false, false, false, false, false, false, false, false] (by kernel_rfl) rfl rfl ⟨(blk_cell BK286.out 0).trans rfl, (blk_cell BK286.out 1).trans rfl, (blk_cell BK286.out 2).trans rfl, (blk_cell BK286.out 3).trans rfl, (blk_cell BK291.out 0).trans rfl, (blk_cell BK291.out 1).trans rfl, (blk_cell BK291.out 2).trans rfl, (blk_cell BK291.out 3).trans rfl⟩ (fun hHeld => ?_); refine with_tabW transposallaw06_ChartTree.tab14 transposallaw06_ChartTree.bits14 (fun HT_ HW_ => ?_)
                    generalize wc.drew = w121 at HO_3 HO_12 HO_47 BK286 BK291 HB hHeld ⊢
                    refine pure_ (i := 0) (N := some 89) (v := ?_) (a' := ?_) #[true, false, false, false, false, false, false, false, false, false, false, false, false, false, false, false, false, false, false, false, false, false, false, false, false] rfl rfl (any_of HT_.out (by kernel_rfl)) (fun _ _ _ h => h) (Or.inl ⟨by rfl, ?_⟩) ?_ ?_
                    rotate_left
                    ·intro w'
                     go_simp
                     with_reducible rfl
                    rotate_left
                    ·simp only [Act.put, List.setIfInBounds_toArray, List.set_cons_zero, List.set_cons_succ, i64_w, i32_w]
                     rfl
                    refine pure_ (i := 2) (N := some 91) (v := ?_) (a' := ?_) #[true, false, true, false, false, false, false, false, false, false, false, false, false, false, false, false, false, false, false, false, false, false, false, false, false] rfl rfl (any_of HT_.out (by kernel_rfl)) (fun _ _ _ h => h) (Or.inl ⟨by rfl, ?_⟩) ?_ ?_
                    rotate_left
                    ·intro w'
                     go_simp
                     with_reducible rfl
                    rotate_left
                    ·simp only [Act.put, List.setIfInBounds_toArray, List.set_cons_zero, List.set_cons_succ, i64_w, i32_w]
                     rfl
                    refine take_ (i := 1) (N := some 90) (v := ?_) (a' := ?_) #[true, true, true, false, false, false, false, false, false, false, false, false, false, false, false, false, false, false, false, false, false, false, false, false, false] rfl rfl (take_ofW HT_.out HW_.out (by kernel_rfl)) (fun _ _ _ h => h) (Or.inl ⟨by rfl, ?_⟩) hHeld ?_ ?_
                    rotate_left
                    ·rintro w' ⟨s0, s1, s2, s3, s4, s5, s6, s7⟩
                     go_simp
                     with_reducible rfl
                    rotate_left
                    ·simp only [Act.put, List.setIfInBounds_toArray, List.set_cons_zero, List.set_cons_succ, i64_w, i32_w]
                     rfl
                    refine take_ (i := 3) (N := some 92) (v := ?_) (a' := ?_) #[true, true, true, true, false, false, false, false, false, false, false, false, false, false, false, false, false, false, false, false, false, false, false, false, false] rfl rfl (take_ofW HT_.out HW_.out (by kernel_rfl)) (fun _ _ _ h => h) (Or.inl ⟨by rfl, ?_⟩) hHeld ?_ ?_
                    rotate_left
                    ·rintro w' ⟨s0, s1, s2, s3, s4, s5, s6, s7⟩
                     go_simp
                     with_reducible rfl
                    rotate_left
                    ·simp only [Act.put, List.setIfInBounds_toArray, List.set_cons_zero, List.set_cons_succ, i64_w, i32_w]
                     rfl
                    refine pure_ (i := 4) (N := some 93) (v := ?_) (a' := ?_) #[true, true, true, true, true, false, false, false, false, false, false, false, false, false, false, false, false, false, false, false, false, false, false, false, false] rfl rfl (any_of HT_.out (by kernel_rfl)) (fun _ _ _ h => h) (Or.inl ⟨by rfl, ?_⟩) ?_ ?_
                    rotate_left
                    ·intro w'
                     go_simp
                     with_reducible rfl
                    rotate_left
                    ·simp only [Act.put, List.setIfInBounds_toArray, List.set_cons_zero, List.set_cons_succ, i64_w, i32_w]
                     rfl
                    refine pure_ (i := 5) (N := some 94) (v := ?_) (a' := ?_) #[true, true, true, true, true, true, false, false, false, false, false, false, false, false, false, false, false, false, false, false, false, false, false, false, false] rfl rfl (any_of HT_.out (by kernel_rfl)) (fun _ _ _ h => h) (Or.inl ⟨by rfl, ?_⟩) ?_ ?_
                    rotate_left
                    ·intro w'
                     go_simp
                     with_reducible rfl
                    rotate_left
                    ·simp only [Act.put, List.setIfInBounds_toArray, List.set_cons_zero, List.set_cons_succ, i64_w, i32_w]
                     rfl
                    refine pure_ (i := 6) (N := some 95) (v := undef) (a' := ?_) #[true, true, true, true, true, true, true, false, false, false, false, false, false, false, false, false, false, false, false, false, false, false, false, false, false] rfl rfl (any_of HT_.out (by kernel_rfl)) (fun _ _ _ h => h) (Or.inr ⟨by rfl, rfl⟩) ?_ ?_
                    rotate_left
                    ·simp only [Act.put, List.setIfInBounds_toArray, List.set_cons_zero, List.set_cons_succ, i64_w, i32_w]
                     rfl
                    refine pure_ (i := 7) (N := some 96) (v := undef) (a' := ?_) #[true, true, true, true, true, true, true, true, false, false, false, false, false, false, false, false, false, false, false, false, false, false, false, false, false] rfl rfl (any_of HT_.out (by kernel_rfl)) (fun _ _ _ h => h) (Or.inr ⟨by rfl, rfl⟩) ?_ ?_
                    rotate_left
                    ·simp only [Act.put, List.setIfInBounds_toArray, List.set_cons_zero, List.set_cons_succ, i64_w, i32_w]
                     rfl
                    refine pure_ (i := 8) (N := some 97) (v := undef) (a' := ?_) #[true, true, true, true, true, true, true, true, true, false, false, false, false, false, false, false, false, false, false, false, false, false, false, false, false] rfl rfl (any_of HT_.out (by kernel_rfl)) (fun _ _ _ h => h) (Or.inr ⟨by rfl, rfl⟩) ?_ ?_
                    rotate_left
                    ·simp only [Act.put, List.setIfInBounds_toArray, List.set_cons_zero, List.set_cons_succ, i64_w, i32_w]
                     rfl
                    refine pure_ (i := 9) (N := some 98) (v := undef) (a' := ?_) #[true, true, true, true, true, true, true, true, true, true, false, false, false, false, false, false, false, false, false, false, false, false, false, false, false] rfl rfl (any_of HT_.out (by kernel_rfl)) (fun _ _ _ h => h) (Or.inr ⟨by rfl, rfl⟩) ?_ ?_
                    rotate_left
                    ·simp only [Act.put, List.setIfInBounds_toArray, List.set_cons_zero, List.set_cons_succ, i64_w, i32_w]
                     rfl
                    refine pure_ (i := 10) (N := some 99) (v := undef) (a' := ?_) #[true, true, true, true, true, true, true, true, true, true, true, false, false, false, false, false, false, false, false, false, false, false, false, false, false] rfl rfl (any_of HT_.out (by kernel_rfl)) (fun _ _ _ h => h) (Or.inr ⟨by rfl, rfl⟩) ?_ ?_
                    rotate_left
                    ·simp only [Act.put, List.setIfInBounds_toArray, List.set_cons_zero, List.set_cons_succ, i64_w, i32_w]
                     rfl
                    refine pure_ (i := 11) (N := some 100) (v := undef) (a' := ?_) #[true, true, true, true, true, true, true, true, true, true, true, true, false, false, false, false, false, false, false, false, false, false, false, false, false] rfl rfl (any_of HT_.out (by kernel_rfl)) (fun _ _ _ h => h) (Or.inr ⟨by rfl, rfl⟩) ?_ ?_
                    rotate_left
                    ·simp only [Act.put, List.setIfInBounds_toArray, List.set_cons_zero, List.set_cons_succ, i64_w, i32_w]
                     rfl
                    refine pure_ (i := 12) (N := some 101) (v := undef) (a' := ?_) #[true, true, true, true, true, true, true, true, true, true, true, true, true, false, false, false, false, false, false, false, false, false, false, false, false] rfl rfl (any_of HT_.out (by kernel_rfl)) (fun _ _ _ h => h) (Or.inr ⟨by rfl, rfl⟩) ?_ ?_
                    rotate_left
                    ·simp only [Act.put, List.setIfInBounds_toArray, List.set_cons_zero, List.set_cons_succ, i64_w, i32_w]
                     rfl
                    refine pure_ (i := 13) (N := some 102) (v := undef) (a' := ?_) #[true, true, true, true, true, true, true, true, true, true, true, true, true, true, false, false, false, false, false, false, false, false, false, false, false] rfl rfl (any_of HT_.out (by kernel_rfl)) (fun _ _ _ h => h) (Or.inr ⟨by rfl, rfl⟩) ?_ ?_
                    rotate_left
                    ·simp only [Act.put, List.setIfInBounds_toArray, List.set_cons_zero, List.set_cons_succ, i64_w, i32_w]
                     rfl
                    refine pure_ (i := 14) (N := some 103) (v := undef) (a' := ?_) #[true, true, true, true, true, true, true, true, true, true, true, true, true, true, true, false, false, false, false, false, false, false, false, false, false] rfl rfl (any_of HT_.out (by kernel_rfl)) (fun _ _ _ h => h) (Or.inr ⟨by rfl, rfl⟩) ?_ ?_
                    rotate_left
                    ·simp only [Act.put, List.setIfInBounds_toArray, List.set_cons_zero, List.set_cons_succ, i64_w, i32_w]
                     rfl
                    refine pure_ (i := 15) (N := some 104) (v := undef) (a' := ?_) #[true, true, true, true, true, true, true, true, true, true, true, true, true, true, true, true, false, false, false, false, false, false, false, false, false] rfl rfl (any_of HT_.out (by kernel_rfl)) (fun _ _ _ h => h) (Or.inr ⟨by rfl, rfl⟩) ?_ ?_
                    rotate_left
                    ·simp only [Act.put, List.setIfInBounds_toArray, List.set_cons_zero, List.set_cons_succ, i64_w, i32_w]
                     rfl
                    refine pure_ (i := 16) (N := some 105) (v := undef) (a' := ?_) #[true, true, true, true, true, true, true, true, true, true, true, true, true, true, true, true, true, false, false, false, false, false, false, false, false] rfl rfl (any_of HT_.out (by kernel_rfl)) (fun _ _ _ h => h) (Or.inr ⟨by rfl, rfl⟩) ?_ ?_
                    rotate_left
                    ·simp only [Act.put, List.setIfInBounds_toArray, List.set_cons_zero, List.set_cons_succ, i64_w, i32_w]
                     rfl
                    refine pure_ (i := 17) (N := some 106) (v := undef) (a' := ?_) #[true, true, true, true, true, true, true, true, true, true, true, true, true, true, true, true, true, true, false, false, false, false, false, false, false] rfl rfl (any_of HT_.out (by kernel_rfl)) (fun _ _ _ h => h) (Or.inr ⟨by rfl, rfl⟩) ?_ ?_
                    rotate_left
                    ·simp only [Act.put, List.setIfInBounds_toArray, List.set_cons_zero, List.set_cons_succ, i64_w, i32_w]
                     rfl
                    refine pure_ (i := 18) (N := some 107) (v := undef) (a' := ?_) #[true, true, true, true, true, true, true, true, true, true, true, true, true, true, true, true, true, true, true, false, false, false, false, false, false] rfl rfl (any_of HT_.out (by kernel_rfl)) (fun _ _ _ h => h) (Or.inr ⟨by rfl, rfl⟩) ?_ ?_
                    rotate_left
                    ·simp only [Act.put, List.setIfInBounds_toArray, List.set_cons_zero, List.set_cons_succ, i64_w, i32_w]
                     rfl
                    refine pure_ (i := 19) (N := some 108) (v := undef) (a' := ?_) #[true, true, true, true, true, true, true, true, true, true, true, true, true, true, true, true, true, true, true, true, false, false, false, false, false] rfl rfl (any_of HT_.out (by kernel_rfl)) (fun _ _ _ h => h) (Or.inr ⟨by rfl, rfl⟩) ?_ ?_
                    rotate_left
                    ·simp only [Act.put, List.setIfInBounds_toArray, List.set_cons_zero, List.set_cons_succ, i64_w, i32_w]
                     rfl
                    refine pure_ (i := 20) (N := some 109) (v := undef) (a' := ?_) #[true, true, true, true, true, true, true, true, true, true, true, true, true, true, true, true, true, true, true, true, true, false, false, false, false] rfl rfl (any_of HT_.out (by kernel_rfl)) (fun _ _ _ h => h) (Or.inr ⟨by rfl, rfl⟩) ?_ ?_
                    rotate_left
                    ·simp only [Act.put, List.setIfInBounds_toArray, List.set_cons_zero, List.set_cons_succ, i64_w, i32_w]
                     rfl
                    refine pure_ (i := 21) (N := some 110) (v := undef) (a' := ?_) #[true, true, true, true, true, true, true, true, true, true, true, true, true, true, true, true, true, true, true, true, true, true, false, false, false] rfl rfl (any_of HT_.out (by kernel_rfl)) (fun _ _ _ h => h) (Or.inr ⟨by rfl, rfl⟩) ?_ ?_
                    rotate_left
                    ·simp only [Act.put, List.setIfInBounds_toArray, List.set_cons_zero, List.set_cons_succ, i64_w, i32_w]
                     rfl
                    refine pure_ (i := 22) (N := some 111) (v := undef) (a' := ?_) #[true, true, true, true, true, true, true, true, true, true, true, true, true, true, true, true, true, true, true, true, true, true, true, false, false] rfl rfl (any_of HT_.out (by kernel_rfl)) (fun _ _ _ h => h) (Or.inr ⟨by rfl, rfl⟩) ?_ ?_
                    rotate_left
                    ·simp only [Act.put, List.setIfInBounds_toArray, List.set_cons_zero, List.set_cons_succ, i64_w, i32_w]
                     rfl
                    refine pure_ (i := 23) (N := some 112) (v := undef) (a' := ?_) #[true, true, true, true, true, true, true, true, true, true, true, true, true, true, true, true, true, true, true, true, true, true, true, true, false] rfl rfl (any_of HT_.out (by kernel_rfl)) (fun _ _ _ h => h) (Or.inr ⟨by rfl, rfl⟩) ?_ ?_
                    rotate_left
                    ·simp only [Act.put, List.setIfInBounds_toArray, List.set_cons_zero, List.set_cons_succ, i64_w, i32_w]
                     rfl
                    refine pure_ (i := 24) (N := some 113) (v := ?_) (a' := ?_) #[true, true, true, true, true, true, true, true, true, true, true, true, true, true, true, true, true, true, true, true, true, true, true, true, true] rfl rfl (any_of HT_.out (by kernel_rfl)) (fun _ _ _ h => h) (Or.inl ⟨by rfl, ?_⟩) ?_ ?_
                    rotate_left
                    ·intro w'
                     go_simp
                     with_reducible rfl
                    rotate_left
                    ·simp only [Act.put, List.setIfInBounds_toArray, List.set_cons_zero, List.set_cons_succ, i64_w, i32_w]
                     rfl
                    refine done_ (done_of HT_.out (by kernel_rfl)) ?_
                    try go_wp2
                    go_meet
                    case rel => exact ⟨_, (false), (by first | rfl | (simp; done) | (simp [*]; done)), H', ⟨by have := HK1.out; have := HJ10.out; have := HK3.out; have := HJ38.out; first | omega | exact Nat.le_refl _⟩, ⟨by (with_reducible repeat (first | apply Kd.R_alloc | apply Kd.R_drewN | apply Kd.R_drew)); exact HO_3.out⟩, ⟨by (with_reducible repeat (first | apply Kd.R_alloc | apply Kd.R_drewN | apply Kd.R_drew)); exact HO_12.out⟩, ⟨by (with_reducible repeat (first | apply Kd.R_alloc | apply Kd.R_drewN | apply Kd.R_drew)); exact HO_47.out⟩, ⟨by (with_reducible repeat (first | refine blk_drewN ?_ _ | refine blk_drew ?_ | refine blk_alloc ?_ _)); exact BK286.out⟩, ⟨by (with_reducible repeat (first | refine blk_drewN ?_ _ | refine blk_drew ?_ | refine blk_alloc ?_ _)); exact BK291.out⟩, ⟨by repeat (first | (with_reducible first | exact HB.out | apply below_alloc | apply pw_below_drewN | apply below_drew1 | refine below_set ?_ GE286.out | refine below_set ?_ GE291.out) | exact HB.out)⟩⟩
                   ·rw [if_neg c120] at H
                    have c120b0 : (((rd_T30 t282 x14_1).f0) == ((rd_T30 t282 x49_3).f0)) = false := beq_eq_false_iff_ne.mpr c120
                    have c120b1 : (((rd_T30 t282 x14_1).f0) != ((rd_T30 t282 x49_3).f0)) = true := bne_iff_ne.mpr c120
                    (first | rw [c120b0] | (simp only [i64_w, i32_w]; rw [c120b0]) | skip)
                    replace H := Option.bind_eq_some_iff.mp H
                    obtain ⟨t297, A1220, H⟩ := H
                    replace H : (if ((rd_T30 t282 x14_1).f3) = 0 then (transposallaw06_ChartTree.j4 kj38 t282 t282 (t282.length : Int) x14_1 t282 (t282.length : Int) x49_3 (t297 != false) ((rd_T30 t282 x14_1).f0) ((rd_T30 t282 x14_1).f1) ((rd_T30 t282 x14_1).f2) ((rd_T30 t282 x14_1).f3)) else ((chart_Chart_Within.f kj38 t282 ((rd_T30 t282 x14_1).f3) ((rd_T30 t282 x49_3).f0)).bind fun t298 => (transposallaw06_ChartTree.j4 kj38 t282 t282 (t282.length : Int) x14_1 t282 (t282.length : Int) x49_3 (t297 != t298) ((rd_T30 t282 x14_1).f0) ((rd_T30 t282 x14_1).f1) ((rd_T30 t282 x14_1).f2) ((rd_T30 t282 x14_1).f3)))) = some r := H
                    have A122 := Aside0.mk A1220
                    clear A1220
                    by_cases c123 : ((rd_T30 t282 x14_1).f3) = 0
                    ·rw [if_pos c123] at H
                     have c123b0 : (((rd_T30 t282 x14_1).f3) == 0) = true := beq_iff_eq.mpr c123
                     have c123b1 : (((rd_T30 t282 x14_1).f3) != 0) = false := bne_eq_false_iff_eq.mpr c123
                     clear c123
                     have H' := Aside0.mk H
                     clear H
                     try go_wp2
                     have n0_ := Aside0.mk (Kd.R_drew HO_3.out)
                     have n1_ := Aside0.mk (Kd.R_drew HO_12.out)
                     have n2_ := Aside0.mk (Kd.R_drew HO_47.out)
                     have n3_ := Aside0.mk (blk_drew BK286.out)
                     have n4_ := Aside0.mk (blk_drew BK291.out)
                     have n5_ := Aside0.mk (below_drew1 HB.out)
                     clear HO_3
                     clear HO_12
                     clear HO_47
                     clear BK286
                     clear BK291
                     clear HB
                     have HO_3 := n0_
                     have HO_12 := n1_
                     have HO_47 := n2_
                     have BK286 := n3_
                     have BK291 := n4_
                     have HB := n5_
                     clear n0_ n1_ n2_ n3_ n4_ n5_
                     refine start_ (n := 25) (S := fun w' => w'.cell? ⟨gb286, 0, none⟩ = some (.int .u32 ((rd_T30 t282 x14_1).f0)) ∧ w'.cell? ⟨gb286, 1, none⟩ = some (.string ((rd_T30 t282 x14_1).f1)) ∧ w'.cell? ⟨gb286, 2, none⟩ = some (.int .u8 ((rd_T30 t282 x14_1).f2)) ∧ w'.cell? ⟨gb286, 3, none⟩ = some (.int .u32 ((rd_T30 t282 x14_1).f3)) ∧ w'.cell? ⟨gb291, 0, none⟩ = some (.int .u32 ((rd_T30 t282 x49_3).f0)) ∧ w'.cell? ⟨gb291, 1, none⟩ = some (.string ((rd_T30 t282 x49_3).f1)) ∧ w'.cell? ⟨gb291, 2, none⟩ = some (.int .u8 ((rd_T30 t282 x49_3).f2)) ∧ w'.cell? ⟨gb291, 3, none⟩ = some (.int .u32 ((rd_T30 t282 x49_3).f3))) (ds := []) #[false, false, false, false, false, false, false, false, false, false, false, false, false, false, false, false, false, false, false, false, false, false, false, false, false] (by kernel_rfl) rfl rfl ⟨(blk_cell BK286.out 0).trans rfl, (blk_cell BK286.out 1).trans rfl, (blk_cell BK286.out 2).trans rfl, (blk_cell BK286.out 3).trans rfl, (blk_cell BK291.out 0).trans rfl, (blk_cell BK291.out 1).trans rfl, (blk_cell BK291.out 2).trans rfl, (blk_cell BK291.out 3).trans rfl⟩ (fun hHeld => ?_); refine with_tabW transposallaw06_ChartTree.tab14 transposallaw06_ChartTree.bits14 (fun HT_ HW_ => ?_)
                     generalize wc.drew = w124 at HO_3 HO_12 HO_47 BK286 BK291 HB hHeld ⊢
                     refine pure_ (i := 0) (N := some 89) (v := ?_) (a' := ?_) #[true, false, false, false, false, false, false, false, false, false, false, false, false, false, false, false, false, false, false, false, false, false, false, false, false] rfl rfl (any_of HT_.out (by kernel_rfl)) (fun _ _ _ h => h) (Or.inl ⟨by rfl, ?_⟩) ?_ ?_
                     rotate_left
                     ·intro w'
                      go_simp
                      with_reducible rfl
                     rotate_left
                     ·simp only [Act.put, List.setIfInBounds_toArray, List.set_cons_zero, List.set_cons_succ, i64_w, i32_w]
                      rfl
                     refine pure_ (i := 2) (N := some 91) (v := ?_) (a' := ?_) #[true, false, true, false, false, false, false, false, false, false, false, false, false, false, false, false, false, false, false, false, false, false, false, false, false] rfl rfl (any_of HT_.out (by kernel_rfl)) (fun _ _ _ h => h) (Or.inl ⟨by rfl, ?_⟩) ?_ ?_
                     rotate_left
                     ·intro w'
                      go_simp
                      with_reducible rfl
                     rotate_left
                     ·simp only [Act.put, List.setIfInBounds_toArray, List.set_cons_zero, List.set_cons_succ, i64_w, i32_w]
                      rfl
                     refine take_ (i := 1) (N := some 90) (v := ?_) (a' := ?_) #[true, true, true, false, false, false, false, false, false, false, false, false, false, false, false, false, false, false, false, false, false, false, false, false, false] rfl rfl (take_ofW HT_.out HW_.out (by kernel_rfl)) (fun _ _ _ h => h) (Or.inl ⟨by rfl, ?_⟩) hHeld ?_ ?_
                     rotate_left
                     ·rintro w' ⟨s0, s1, s2, s3, s4, s5, s6, s7⟩
                      go_simp
                      with_reducible rfl
                     rotate_left
                     ·simp only [Act.put, List.setIfInBounds_toArray, List.set_cons_zero, List.set_cons_succ, i64_w, i32_w]
                      rfl
                     refine take_ (i := 3) (N := some 92) (v := ?_) (a' := ?_) #[true, true, true, true, false, false, false, false, false, false, false, false, false, false, false, false, false, false, false, false, false, false, false, false, false] rfl rfl (take_ofW HT_.out HW_.out (by kernel_rfl)) (fun _ _ _ h => h) (Or.inl ⟨by rfl, ?_⟩) hHeld ?_ ?_
                     rotate_left
                     ·rintro w' ⟨s0, s1, s2, s3, s4, s5, s6, s7⟩
                      go_simp
                      with_reducible rfl
                     rotate_left
                     ·simp only [Act.put, List.setIfInBounds_toArray, List.set_cons_zero, List.set_cons_succ, i64_w, i32_w]
                      rfl
                     refine pure_ (i := 4) (N := some 93) (v := ?_) (a' := ?_) #[true, true, true, true, true, false, false, false, false, false, false, false, false, false, false, false, false, false, false, false, false, false, false, false, false] rfl rfl (any_of HT_.out (by kernel_rfl)) (fun _ _ _ h => h) (Or.inl ⟨by rfl, ?_⟩) ?_ ?_
                     rotate_left
                     ·intro w'
                      go_simp
                      with_reducible rfl
                     rotate_left
                     ·simp only [Act.put, List.setIfInBounds_toArray, List.set_cons_zero, List.set_cons_succ, i64_w, i32_w]
                      rfl
                     refine pure_ (i := 5) (N := some 94) (v := ?_) (a' := ?_) #[true, true, true, true, true, true, false, false, false, false, false, false, false, false, false, false, false, false, false, false, false, false, false, false, false] rfl rfl (any_of HT_.out (by kernel_rfl)) (fun _ _ _ h => h) (Or.inl ⟨by rfl, ?_⟩) ?_ ?_
                     rotate_left
                     ·intro w'
                      go_simp
                      with_reducible rfl
                     rotate_left
                     ·simp only [Act.put, List.setIfInBounds_toArray, List.set_cons_zero, List.set_cons_succ, i64_w, i32_w]
                      rfl
                     refine pure_ (i := 6) (N := some 95) (v := ?_) (a' := ?_) #[true, true, true, true, true, true, true, false, false, false, false, false, false, false, false, false, false, false, false, false, false, false, false, false, false] rfl rfl (any_of HT_.out (by kernel_rfl)) (fun _ _ _ h => h) (Or.inl ⟨by rfl, ?_⟩) ?_ ?_
                     rotate_left
                     ·intro w'
                      go_simp
                      with_reducible rfl
                     rotate_left
                     ·simp only [Act.put, List.setIfInBounds_toArray, List.set_cons_zero, List.set_cons_succ, i64_w, i32_w]
                      rfl
                     refine pure_ (i := 7) (N := some 96) (v := ?_) (a' := ?_) #[true, true, true, true, true, true, true, true, false, false, false, false, false, false, false, false, false, false, false, false, false, false, false, false, false] rfl rfl (any_of HT_.out (by kernel_rfl)) (fun _ _ _ h => h) (Or.inl ⟨by rfl, ?_⟩) ?_ ?_
                     rotate_left
                     ·intro w'
                      go_simp
                      with_reducible rfl
                     rotate_left
                     ·simp only [Act.put, List.setIfInBounds_toArray, List.set_cons_zero, List.set_cons_succ, i64_w, i32_w]
                      rfl
                     refine pure_ (i := 9) (N := some 98) (v := ?_) (a' := ?_) #[true, true, true, true, true, true, true, true, false, true, false, false, false, false, false, false, false, false, false, false, false, false, false, false, false] rfl rfl (any_of HT_.out (by kernel_rfl)) (fun _ _ _ h => h) (Or.inl ⟨by rfl, ?_⟩) ?_ ?_
                     rotate_left
                     ·intro w'
                      go_simp
                      with_reducible rfl
                     rotate_left
                     ·simp only [Act.put, List.setIfInBounds_toArray, List.set_cons_zero, List.set_cons_succ, i64_w, i32_w]
                      rfl
                     refine pure_ (i := 12) (N := some 101) (v := ?_) (a' := ?_) #[true, true, true, true, true, true, true, true, false, true, false, false, true, false, false, false, false, false, false, false, false, false, false, false, false] rfl rfl (any_of HT_.out (by kernel_rfl)) (fun _ _ _ h => h) (Or.inl ⟨by rfl, ?_⟩) ?_ ?_
                     rotate_left
                     ·intro w'
                      go_simp
                      with_reducible rfl
                     rotate_left
                     ·simp only [Act.put, List.setIfInBounds_toArray, List.set_cons_zero, List.set_cons_succ, i64_w, i32_w]
                      rfl
                     refine take_ (i := 8) (N := some 97) (v := ?_) (a' := ?_) #[true, true, true, true, true, true, true, true, true, true, false, false, true, false, false, false, false, false, false, false, false, false, false, false, false] rfl rfl (take_ofW HT_.out HW_.out (by kernel_rfl)) (fun _ _ _ h => h) (Or.inl ⟨by rfl, ?_⟩) hHeld ?_ ?_
                     rotate_left
                     ·rintro w' ⟨s0, s1, s2, s3, s4, s5, s6, s7⟩
                      go_simp
                      with_reducible rfl
                     rotate_left
                     ·simp only [Act.put, List.setIfInBounds_toArray, List.set_cons_zero, List.set_cons_succ, i64_w, i32_w]
                      rfl
                     refine take_ (i := 10) (N := some 99) (v := ?_) (a' := ?_) #[true, true, true, true, true, true, true, true, true, true, true, false, true, false, false, false, false, false, false, false, false, false, false, false, false] rfl rfl (take_ofW HT_.out HW_.out (by kernel_rfl)) (fun _ _ _ h => h) (Or.inl ⟨by rfl, ?_⟩) hHeld ?_ ?_
                     rotate_left
                     ·rintro w' ⟨s0, s1, s2, s3, s4, s5, s6, s7⟩
                      go_simp
                      with_reducible rfl
                     rotate_left
                     ·simp only [Act.put, List.setIfInBounds_toArray, List.set_cons_zero, List.set_cons_succ, i64_w, i32_w]
                      rfl
                     refine take_ (i := 13) (N := some 102) (v := ?_) (a' := ?_) #[true, true, true, true, true, true, true, true, true, true, true, false, true, true, false, false, false, false, false, false, false, false, false, false, false] rfl rfl (take_ofW HT_.out HW_.out (by kernel_rfl)) (fun _ _ _ h => h) (Or.inl ⟨by rfl, ?_⟩) hHeld ?_ ?_
                     rotate_left
                     ·rintro w' ⟨s0, s1, s2, s3, s4, s5, s6, s7⟩
                      go_simp
                      with_reducible rfl
                     rotate_left
                     ·simp only [Act.put, List.setIfInBounds_toArray, List.set_cons_zero, List.set_cons_succ, i64_w, i32_w]
                      rfl
                     refine pure_ (i := 14) (N := some 103) (v := ?_) (a' := ?_) #[true, true, true, true, true, true, true, true, true, true, true, false, true, true, true, false, false, false, false, false, false, false, false, false, false] rfl rfl (any_of HT_.out (by kernel_rfl)) (fun _ _ _ h => h) (Or.inl ⟨by rfl, ?_⟩) ?_ ?_
                     rotate_left
                     ·intro w'
                      go_simp
                      with_reducible rfl
                     rotate_left
                     ·simp only [Act.put, List.setIfInBounds_toArray, List.set_cons_zero, List.set_cons_succ, i64_w, i32_w]
                      rfl
                     refine one_ (i := 11) (N := some 100) #[true, true, true, true, true, true, true, true, true, true, true, true, true, true, true, false, false, false, false, false, false, false, false, false, false] rfl rfl (one_of HT_.out (by kernel_rfl)) (by decide) (fun K hK => ?_)
                     refine goes_ Tryz.func12 (by kernel_rfl) rfl #[.slice (some ad285) t282.length co7, .int .u32 ((rd_T30 t282 x14_1).f0), .int .u32 ((rd_T30 t282 x49_3).f0)] (by rfl) rfl rfl (by (try simp only [List.map_toArray, List.map_cons, List.map_nil]); first | done | rfl | (simp only [List.length_drop, List.length_take]; rfl)) ?_
                     with_reducible refine (chart_Chart_Within.calls kj38 _ _ t282 ((rd_T30 t282 x14_1).f0) ((rd_T30 t282 x49_3).f0) t297 _ ?side1 ?side2 A122.out).mono ?_
                     (case side1 => repeat (first | exact (Kd.R_reads' HO_3.out).2.2 | (with_reducible refine Kd.C_alloc ?_ _) | (with_reducible refine Kd.C_drewN ?_ _) | (with_reducible refine Kd.C_drew ?_)))
                     (case side2 => exact (Kd.R_reads' HO_3.out).2.1)
                     rintro e w125 ⟨rfl, hb⟩
                     refine ⟨_, rfl, ?_⟩
                     have n0_ := Aside0.mk (Kd.R_below (by (with_reducible repeat (first | apply Kd.R_alloc | apply Kd.R_drewN | apply Kd.R_drew)); exact HO_3.out) hb)
                     have n1_ := Aside0.mk (Kd.R_below (by (with_reducible repeat (first | apply Kd.R_alloc | apply Kd.R_drewN | apply Kd.R_drew)); exact HO_12.out) hb)
                     have n2_ := Aside0.mk (Kd.R_below (by (with_reducible repeat (first | apply Kd.R_alloc | apply Kd.R_drewN | apply Kd.R_drew)); exact HO_47.out) hb)
                     have n3_ := Aside0.mk (blk_below (g := gb286) (o := .cells #[.int .u32 ((rd_T30 t282 x14_1).f0), .string ((rd_T30 t282 x14_1).f1), .int .u8 ((rd_T30 t282 x14_1).f2), .int .u32 ((rd_T30 t282 x14_1).f3)] 30 (0, 0)) (by (with_reducible repeat (first | refine blk_drewN ?_ _ | refine blk_drew ?_ | refine blk_alloc ?_ _)); exact BK286.out) hb)
                     have n4_ := Aside0.mk (blk_below (g := gb291) (o := .cells #[.int .u32 ((rd_T30 t282 x49_3).f0), .string ((rd_T30 t282 x49_3).f1), .int .u8 ((rd_T30 t282 x49_3).f2), .int .u32 ((rd_T30 t282 x49_3).f3)] 30 (0, 0)) (by (with_reducible repeat (first | refine blk_drewN ?_ _ | refine blk_drew ?_ | refine blk_alloc ?_ _)); exact BK291.out) hb)
                     have n5_ := Aside0.mk (below_step (by repeat (first | (with_reducible first | exact HB.out | apply below_alloc | apply pw_below_drewN | apply below_drew1 | refine below_set ?_ GE286.out | refine below_set ?_ GE291.out) | exact HB.out)) hb)
                     clear HO_3
                     clear HO_12
                     clear HO_47
                     clear BK286
                     clear BK291
                     clear HB
                     have HO_3 := n0_
                     have HO_12 := n1_
                     have HO_47 := n2_
                     have BK286 := n3_
                     have BK291 := n4_
                     have HB := n5_
                     clear n0_ n1_ n2_ n3_ n4_ n5_
                     (try clear hb)
                     (try clear hb2)
                     (try clear hk)
                     (try clear hi)
                     refine hK.out _ _ ⟨(blk_cell BK286.out 0).trans rfl, (blk_cell BK286.out 1).trans rfl, (blk_cell BK286.out 2).trans rfl, (blk_cell BK286.out 3).trans rfl, (blk_cell BK291.out 0).trans rfl, (blk_cell BK291.out 1).trans rfl, (blk_cell BK291.out 2).trans rfl, (blk_cell BK291.out 3).trans rfl⟩ (fun hHeld => ?_)
                     clear hK K
                     refine norm_ (a' := ?_) ?_ ?_
                     rotate_left
                     ·show Act.put _ (some 100) _ = _
                      simp only [Act.put, List.setIfInBounds_toArray, List.set_cons_zero, List.set_cons_succ, i64_w, i32_w]
                      rfl
                     refine pure_ (i := 15) (N := some 104) (v := ?_) (a' := ?_) #[true, true, true, true, true, true, true, true, true, true, true, true, true, true, true, true, false, false, false, false, false, false, false, false, false] rfl rfl (any_of HT_.out (by kernel_rfl)) (fun _ _ _ h => h) (Or.inl ⟨by rfl, ?_⟩) ?_ ?_
                     rotate_left
                     ·intro w'
                      go_simp
                      with_reducible rfl
                     rotate_left
                     ·simp only [Act.put, List.setIfInBounds_toArray, List.set_cons_zero, List.set_cons_succ, i64_w, i32_w]
                      rfl
                     refine pure_ (i := 16) (N := some 105) (v := undef) (a' := ?_) #[true, true, true, true, true, true, true, true, true, true, true, true, true, true, true, true, true, false, false, false, false, false, false, false, false] rfl rfl (any_of HT_.out (by kernel_rfl)) (fun _ _ _ h => h) (Or.inr ⟨by rfl, rfl⟩) ?_ ?_
                     rotate_left
                     ·simp only [Act.put, List.setIfInBounds_toArray, List.set_cons_zero, List.set_cons_succ, i64_w, i32_w]
                      rfl
                     refine pure_ (i := 17) (N := some 106) (v := undef) (a' := ?_) #[true, true, true, true, true, true, true, true, true, true, true, true, true, true, true, true, true, true, false, false, false, false, false, false, false] rfl rfl (any_of HT_.out (by kernel_rfl)) (fun _ _ _ h => h) (Or.inr ⟨by rfl, rfl⟩) ?_ ?_
                     rotate_left
                     ·simp only [Act.put, List.setIfInBounds_toArray, List.set_cons_zero, List.set_cons_succ, i64_w, i32_w]
                      rfl
                     refine pure_ (i := 18) (N := some 107) (v := undef) (a' := ?_) #[true, true, true, true, true, true, true, true, true, true, true, true, true, true, true, true, true, true, true, false, false, false, false, false, false] rfl rfl (any_of HT_.out (by kernel_rfl)) (fun _ _ _ h => h) (Or.inr ⟨by rfl, rfl⟩) ?_ ?_
                     rotate_left
                     ·simp only [Act.put, List.setIfInBounds_toArray, List.set_cons_zero, List.set_cons_succ, i64_w, i32_w]
                      rfl
                     refine pure_ (i := 19) (N := some 108) (v := undef) (a' := ?_) #[true, true, true, true, true, true, true, true, true, true, true, true, true, true, true, true, true, true, true, true, false, false, false, false, false] rfl rfl (any_of HT_.out (by kernel_rfl)) (fun _ _ _ h => h) (Or.inr ⟨by rfl, rfl⟩) ?_ ?_
                     rotate_left
                     ·simp only [Act.put, List.setIfInBounds_toArray, List.set_cons_zero, List.set_cons_succ, i64_w, i32_w]
                      rfl
                     refine pure_ (i := 20) (N := some 109) (v := undef) (a' := ?_) #[true, true, true, true, true, true, true, true, true, true, true, true, true, true, true, true, true, true, true, true, true, false, false, false, false] rfl rfl (any_of HT_.out (by kernel_rfl)) (fun _ _ _ h => h) (Or.inr ⟨by rfl, rfl⟩) ?_ ?_
                     rotate_left
                     ·simp only [Act.put, List.setIfInBounds_toArray, List.set_cons_zero, List.set_cons_succ, i64_w, i32_w]
                      rfl
                     refine pure_ (i := 21) (N := some 110) (v := undef) (a' := ?_) #[true, true, true, true, true, true, true, true, true, true, true, true, true, true, true, true, true, true, true, true, true, true, false, false, false] rfl rfl (any_of HT_.out (by kernel_rfl)) (fun _ _ _ h => h) (Or.inr ⟨by rfl, rfl⟩) ?_ ?_
                     rotate_left
                     ·simp only [Act.put, List.setIfInBounds_toArray, List.set_cons_zero, List.set_cons_succ, i64_w, i32_w]
                      rfl
                     refine pure_ (i := 22) (N := some 111) (v := ?_) (a' := ?_) #[true, true, true, true, true, true, true, true, true, true, true, true, true, true, true, true, true, true, true, true, true, true, true, false, false] rfl rfl (any_of HT_.out (by kernel_rfl)) (fun _ _ _ h => h) (Or.inl ⟨by rfl, ?_⟩) ?_ ?_
                     rotate_left
                     ·intro w'
                      go_simp
                      with_reducible rfl
                     rotate_left
                     ·simp only [Act.put, List.setIfInBounds_toArray, List.set_cons_zero, List.set_cons_succ, i64_w, i32_w]
                      rfl
                     refine pure_ (i := 23) (N := some 112) (v := ?_) (a' := ?_) #[true, true, true, true, true, true, true, true, true, true, true, true, true, true, true, true, true, true, true, true, true, true, true, true, false] rfl rfl (any_of HT_.out (by kernel_rfl)) (fun _ _ _ h => h) (Or.inl ⟨by rfl, ?_⟩) ?_ ?_
                     rotate_left
                     ·intro w'
                      go_simp
                      with_reducible rfl
                     rotate_left
                     ·simp only [Act.put, List.setIfInBounds_toArray, List.set_cons_zero, List.set_cons_succ, i64_w, i32_w]
                      rfl
                     refine pure_ (i := 24) (N := some 113) (v := ?_) (a' := ?_) #[true, true, true, true, true, true, true, true, true, true, true, true, true, true, true, true, true, true, true, true, true, true, true, true, true] rfl rfl (any_of HT_.out (by kernel_rfl)) (fun _ _ _ h => h) (Or.inl ⟨by rfl, ?_⟩) ?_ ?_
                     rotate_left
                     ·intro w'
                      go_simp
                      with_reducible rfl
                     rotate_left
                     ·simp only [Act.put, List.setIfInBounds_toArray, List.set_cons_zero, List.set_cons_succ, i64_w, i32_w]
                      rfl
                     refine done_ (done_of HT_.out (by kernel_rfl)) ?_
                     try go_wp2
                     go_meet
                     case rel => exact ⟨_, ((t297 != false)), (by first | rfl | (simp; done) | (simp [*]; done)), H', ⟨by have := HK1.out; have := HJ10.out; have := HK3.out; have := HJ38.out; first | omega | exact Nat.le_refl _⟩, ⟨by (with_reducible repeat (first | apply Kd.R_alloc | apply Kd.R_drewN | apply Kd.R_drew)); exact HO_3.out⟩, ⟨by (with_reducible repeat (first | apply Kd.R_alloc | apply Kd.R_drewN | apply Kd.R_drew)); exact HO_12.out⟩, ⟨by (with_reducible repeat (first | apply Kd.R_alloc | apply Kd.R_drewN | apply Kd.R_drew)); exact HO_47.out⟩, ⟨by (with_reducible repeat (first | refine blk_drewN ?_ _ | refine blk_drew ?_ | refine blk_alloc ?_ _)); exact BK286.out⟩, ⟨by (with_reducible repeat (first | refine blk_drewN ?_ _ | refine blk_drew ?_ | refine blk_alloc ?_ _)); exact BK291.out⟩, ⟨by repeat (first | (with_reducible first | exact HB.out | apply below_alloc | apply pw_below_drewN | apply below_drew1 | refine below_set ?_ GE286.out | refine below_set ?_ GE291.out) | exact HB.out)⟩⟩
                    ·rw [if_neg c123] at H
                     have c123b0 : (((rd_T30 t282 x14_1).f3) == 0) = false := beq_eq_false_iff_ne.mpr c123
                     have c123b1 : (((rd_T30 t282 x14_1).f3) != 0) = true := bne_iff_ne.mpr c123
                     replace H := Option.bind_eq_some_iff.mp H
                     obtain ⟨t298, A1260, H⟩ := H
                     replace H : (transposallaw06_ChartTree.j4 kj38 t282 t282 (t282.length : Int) x14_1 t282 (t282.length : Int) x49_3 (t297 != t298) ((rd_T30 t282 x14_1).f0) ((rd_T30 t282 x14_1).f1) ((rd_T30 t282 x14_1).f2) ((rd_T30 t282 x14_1).f3)) = some r := H
                     have A126 := Aside0.mk A1260
                     clear A1260
                     have H' := Aside0.mk H
                     clear H
                     try go_wp2
                     have n0_ := Aside0.mk (Kd.R_drew HO_3.out)
                     have n1_ := Aside0.mk (Kd.R_drew HO_12.out)
                     have n2_ := Aside0.mk (Kd.R_drew HO_47.out)
                     have n3_ := Aside0.mk (blk_drew BK286.out)
                     have n4_ := Aside0.mk (blk_drew BK291.out)
                     have n5_ := Aside0.mk (below_drew1 HB.out)
                     clear HO_3
                     clear HO_12
                     clear HO_47
                     clear BK286
                     clear BK291
                     clear HB
                     have HO_3 := n0_
                     have HO_12 := n1_
                     have HO_47 := n2_
                     have BK286 := n3_
                     have BK291 := n4_
                     have HB := n5_
                     clear n0_ n1_ n2_ n3_ n4_ n5_
                     refine start_ (n := 25) (S := fun w' => w'.cell? ⟨gb286, 0, none⟩ = some (.int .u32 ((rd_T30 t282 x14_1).f0)) ∧ w'.cell? ⟨gb286, 1, none⟩ = some (.string ((rd_T30 t282 x14_1).f1)) ∧ w'.cell? ⟨gb286, 2, none⟩ = some (.int .u8 ((rd_T30 t282 x14_1).f2)) ∧ w'.cell? ⟨gb286, 3, none⟩ = some (.int .u32 ((rd_T30 t282 x14_1).f3)) ∧ w'.cell? ⟨gb291, 0, none⟩ = some (.int .u32 ((rd_T30 t282 x49_3).f0)) ∧ w'.cell? ⟨gb291, 1, none⟩ = some (.string ((rd_T30 t282 x49_3).f1)) ∧ w'.cell? ⟨gb291, 2, none⟩ = some (.int .u8 ((rd_T30 t282 x49_3).f2)) ∧ w'.cell? ⟨gb291, 3, none⟩ = some (.int .u32 ((rd_T30 t282 x49_3).f3))) (ds := []) #[false, false, false, false, false, false, false, false, false, false, false, false, false, false, false, false, false, false, false, false, false, false, false, false, false] (by kernel_rfl) rfl rfl ⟨(blk_cell BK286.out 0).trans rfl, (blk_cell BK286.out 1).trans rfl, (blk_cell BK286.out 2).trans rfl, (blk_cell BK286.out 3).trans rfl, (blk_cell BK291.out 0).trans rfl, (blk_cell BK291.out 1).trans rfl, (blk_cell BK291.out 2).trans rfl, (blk_cell BK291.out 3).trans rfl⟩ (fun hHeld => ?_); refine with_tabW transposallaw06_ChartTree.tab14 transposallaw06_ChartTree.bits14 (fun HT_ HW_ => ?_)
                     generalize wc.drew = w127 at HO_3 HO_12 HO_47 BK286 BK291 HB hHeld ⊢
                     refine pure_ (i := 0) (N := some 89) (v := ?_) (a' := ?_) #[true, false, false, false, false, false, false, false, false, false, false, false, false, false, false, false, false, false, false, false, false, false, false, false, false] rfl rfl (any_of HT_.out (by kernel_rfl)) (fun _ _ _ h => h) (Or.inl ⟨by rfl, ?_⟩) ?_ ?_
                     rotate_left
                     ·intro w'
                      go_simp
                      with_reducible rfl
                     rotate_left
                     ·simp only [Act.put, List.setIfInBounds_toArray, List.set_cons_zero, List.set_cons_succ, i64_w, i32_w]
                      rfl
                     refine pure_ (i := 2) (N := some 91) (v := ?_) (a' := ?_) #[true, false, true, false, false, false, false, false, false, false, false, false, false, false, false, false, false, false, false, false, false, false, false, false, false] rfl rfl (any_of HT_.out (by kernel_rfl)) (fun _ _ _ h => h) (Or.inl ⟨by rfl, ?_⟩) ?_ ?_
                     rotate_left
                     ·intro w'
                      go_simp
                      with_reducible rfl
                     rotate_left
                     ·simp only [Act.put, List.setIfInBounds_toArray, List.set_cons_zero, List.set_cons_succ, i64_w, i32_w]
                      rfl
                     refine take_ (i := 1) (N := some 90) (v := ?_) (a' := ?_) #[true, true, true, false, false, false, false, false, false, false, false, false, false, false, false, false, false, false, false, false, false, false, false, false, false] rfl rfl (take_ofW HT_.out HW_.out (by kernel_rfl)) (fun _ _ _ h => h) (Or.inl ⟨by rfl, ?_⟩) hHeld ?_ ?_
                     rotate_left
                     ·rintro w' ⟨s0, s1, s2, s3, s4, s5, s6, s7⟩
                      go_simp
                      with_reducible rfl
                     rotate_left
                     ·simp only [Act.put, List.setIfInBounds_toArray, List.set_cons_zero, List.set_cons_succ, i64_w, i32_w]
                      rfl
                     refine take_ (i := 3) (N := some 92) (v := ?_) (a' := ?_) #[true, true, true, true, false, false, false, false, false, false, false, false, false, false, false, false, false, false, false, false, false, false, false, false, false] rfl rfl (take_ofW HT_.out HW_.out (by kernel_rfl)) (fun _ _ _ h => h) (Or.inl ⟨by rfl, ?_⟩) hHeld ?_ ?_
                     rotate_left
                     ·rintro w' ⟨s0, s1, s2, s3, s4, s5, s6, s7⟩
                      go_simp
                      with_reducible rfl
                     rotate_left
                     ·simp only [Act.put, List.setIfInBounds_toArray, List.set_cons_zero, List.set_cons_succ, i64_w, i32_w]
                      rfl
                     refine pure_ (i := 4) (N := some 93) (v := ?_) (a' := ?_) #[true, true, true, true, true, false, false, false, false, false, false, false, false, false, false, false, false, false, false, false, false, false, false, false, false] rfl rfl (any_of HT_.out (by kernel_rfl)) (fun _ _ _ h => h) (Or.inl ⟨by rfl, ?_⟩) ?_ ?_
                     rotate_left
                     ·intro w'
                      go_simp
                      with_reducible rfl
                     rotate_left
                     ·simp only [Act.put, List.setIfInBounds_toArray, List.set_cons_zero, List.set_cons_succ, i64_w, i32_w]
                      rfl
                     refine pure_ (i := 5) (N := some 94) (v := ?_) (a' := ?_) #[true, true, true, true, true, true, false, false, false, false, false, false, false, false, false, false, false, false, false, false, false, false, false, false, false] rfl rfl (any_of HT_.out (by kernel_rfl)) (fun _ _ _ h => h) (Or.inl ⟨by rfl, ?_⟩) ?_ ?_
                     rotate_left
                     ·intro w'
                      go_simp
                      with_reducible rfl
                     rotate_left
                     ·simp only [Act.put, List.setIfInBounds_toArray, List.set_cons_zero, List.set_cons_succ, i64_w, i32_w]
                      rfl
                     refine pure_ (i := 6) (N := some 95) (v := ?_) (a' := ?_) #[true, true, true, true, true, true, true, false, false, false, false, false, false, false, false, false, false, false, false, false, false, false, false, false, false] rfl rfl (any_of HT_.out (by kernel_rfl)) (fun _ _ _ h => h) (Or.inl ⟨by rfl, ?_⟩) ?_ ?_
                     rotate_left
                     ·intro w'
                      go_simp
                      with_reducible rfl
                     rotate_left
                     ·simp only [Act.put, List.setIfInBounds_toArray, List.set_cons_zero, List.set_cons_succ, i64_w, i32_w]
                      rfl
                     refine pure_ (i := 7) (N := some 96) (v := ?_) (a' := ?_) #[true, true, true, true, true, true, true, true, false, false, false, false, false, false, false, false, false, false, false, false, false, false, false, false, false] rfl rfl (any_of HT_.out (by kernel_rfl)) (fun _ _ _ h => h) (Or.inl ⟨by rfl, ?_⟩) ?_ ?_
                     rotate_left
                     ·intro w'
                      go_simp
                      with_reducible rfl
                     rotate_left
                     ·simp only [Act.put, List.setIfInBounds_toArray, List.set_cons_zero, List.set_cons_succ, i64_w, i32_w]
                      rfl
                     refine pure_ (i := 9) (N := some 98) (v := ?_) (a' := ?_) #[true, true, true, true, true, true, true, true, false, true, false, false, false, false, false, false, false, false, false, false, false, false, false, false, false] rfl rfl (any_of HT_.out (by kernel_rfl)) (fun _ _ _ h => h) (Or.inl ⟨by rfl, ?_⟩) ?_ ?_
                     rotate_left
                     ·intro w'
                      go_simp
                      with_reducible rfl
                     rotate_left
                     ·simp only [Act.put, List.setIfInBounds_toArray, List.set_cons_zero, List.set_cons_succ, i64_w, i32_w]
                      rfl
                     refine pure_ (i := 12) (N := some 101) (v := ?_) (a' := ?_) #[true, true, true, true, true, true, true, true, false, true, false, false, true, false, false, false, false, false, false, false, false, false, false, false, false] rfl rfl (any_of HT_.out (by kernel_rfl)) (fun _ _ _ h => h) (Or.inl ⟨by rfl, ?_⟩) ?_ ?_
                     rotate_left
                     ·intro w'
                      go_simp
                      with_reducible rfl
                     rotate_left
                     ·simp only [Act.put, List.setIfInBounds_toArray, List.set_cons_zero, List.set_cons_succ, i64_w, i32_w]
                      rfl
                     refine take_ (i := 8) (N := some 97) (v := ?_) (a' := ?_) #[true, true, true, true, true, true, true, true, true, true, false, false, true, false, false, false, false, false, false, false, false, false, false, false, false] rfl rfl (take_ofW HT_.out HW_.out (by kernel_rfl)) (fun _ _ _ h => h) (Or.inl ⟨by rfl, ?_⟩) hHeld ?_ ?_
                     rotate_left
                     ·rintro w' ⟨s0, s1, s2, s3, s4, s5, s6, s7⟩
                      go_simp
                      with_reducible rfl
                     rotate_left
                     ·simp only [Act.put, List.setIfInBounds_toArray, List.set_cons_zero, List.set_cons_succ, i64_w, i32_w]
                      rfl
                     refine take_ (i := 10) (N := some 99) (v := ?_) (a' := ?_) #[true, true, true, true, true, true, true, true, true, true, true, false, true, false, false, false, false, false, false, false, false, false, false, false, false] rfl rfl (take_ofW HT_.out HW_.out (by kernel_rfl)) (fun _ _ _ h => h) (Or.inl ⟨by rfl, ?_⟩) hHeld ?_ ?_
                     rotate_left
                     ·rintro w' ⟨s0, s1, s2, s3, s4, s5, s6, s7⟩
                      go_simp
                      with_reducible rfl
                     rotate_left
                     ·simp only [Act.put, List.setIfInBounds_toArray, List.set_cons_zero, List.set_cons_succ, i64_w, i32_w]
                      rfl
                     refine take_ (i := 13) (N := some 102) (v := ?_) (a' := ?_) #[true, true, true, true, true, true, true, true, true, true, true, false, true, true, false, false, false, false, false, false, false, false, false, false, false] rfl rfl (take_ofW HT_.out HW_.out (by kernel_rfl)) (fun _ _ _ h => h) (Or.inl ⟨by rfl, ?_⟩) hHeld ?_ ?_
                     rotate_left
                     ·rintro w' ⟨s0, s1, s2, s3, s4, s5, s6, s7⟩
                      go_simp
                      with_reducible rfl
                     rotate_left
                     ·simp only [Act.put, List.setIfInBounds_toArray, List.set_cons_zero, List.set_cons_succ, i64_w, i32_w]
                      rfl
                     refine pure_ (i := 14) (N := some 103) (v := ?_) (a' := ?_) #[true, true, true, true, true, true, true, true, true, true, true, false, true, true, true, false, false, false, false, false, false, false, false, false, false] rfl rfl (any_of HT_.out (by kernel_rfl)) (fun _ _ _ h => h) (Or.inl ⟨by rfl, ?_⟩) ?_ ?_
                     rotate_left
                     ·intro w'
                      go_simp
                      with_reducible rfl
                     rotate_left
                     ·simp only [Act.put, List.setIfInBounds_toArray, List.set_cons_zero, List.set_cons_succ, i64_w, i32_w]
                      rfl
                     refine one_ (i := 11) (N := some 100) #[true, true, true, true, true, true, true, true, true, true, true, true, true, true, true, false, false, false, false, false, false, false, false, false, false] rfl rfl (one_of HT_.out (by kernel_rfl)) (by decide) (fun K hK => ?_)
                     refine goes_ Tryz.func12 (by kernel_rfl) rfl #[.slice (some ad285) t282.length co7, .int .u32 ((rd_T30 t282 x14_1).f0), .int .u32 ((rd_T30 t282 x49_3).f0)] (by rfl) rfl rfl (by (try simp only [List.map_toArray, List.map_cons, List.map_nil]); first | done | rfl | (simp only [List.length_drop, List.length_take]; rfl)) ?_
                     with_reducible refine (chart_Chart_Within.calls kj38 _ _ t282 ((rd_T30 t282 x14_1).f0) ((rd_T30 t282 x49_3).f0) t297 _ ?side1 ?side2 A122.out).mono ?_
                     (case side1 => repeat (first | exact (Kd.R_reads' HO_3.out).2.2 | (with_reducible refine Kd.C_alloc ?_ _) | (with_reducible refine Kd.C_drewN ?_ _) | (with_reducible refine Kd.C_drew ?_)))
                     (case side2 => exact (Kd.R_reads' HO_3.out).2.1)
                     rintro e w128 ⟨rfl, hb⟩
                     refine ⟨_, rfl, ?_⟩
                     have n0_ := Aside0.mk (Kd.R_below (by (with_reducible repeat (first | apply Kd.R_alloc | apply Kd.R_drewN | apply Kd.R_drew)); exact HO_3.out) hb)
                     have n1_ := Aside0.mk (Kd.R_below (by (with_reducible repeat (first | apply Kd.R_alloc | apply Kd.R_drewN | apply Kd.R_drew)); exact HO_12.out) hb)
                     have n2_ := Aside0.mk (Kd.R_below (by (with_reducible repeat (first | apply Kd.R_alloc | apply Kd.R_drewN | apply Kd.R_drew)); exact HO_47.out) hb)
                     have n3_ := Aside0.mk (blk_below (g := gb286) (o := .cells #[.int .u32 ((rd_T30 t282 x14_1).f0), .string ((rd_T30 t282 x14_1).f1), .int .u8 ((rd_T30 t282 x14_1).f2), .int .u32 ((rd_T30 t282 x14_1).f3)] 30 (0, 0)) (by (with_reducible repeat (first | refine blk_drewN ?_ _ | refine blk_drew ?_ | refine blk_alloc ?_ _)); exact BK286.out) hb)
                     have n4_ := Aside0.mk (blk_below (g := gb291) (o := .cells #[.int .u32 ((rd_T30 t282 x49_3).f0), .string ((rd_T30 t282 x49_3).f1), .int .u8 ((rd_T30 t282 x49_3).f2), .int .u32 ((rd_T30 t282 x49_3).f3)] 30 (0, 0)) (by (with_reducible repeat (first | refine blk_drewN ?_ _ | refine blk_drew ?_ | refine blk_alloc ?_ _)); exact BK291.out) hb)
                     have n5_ := Aside0.mk (below_step (by repeat (first | (with_reducible first | exact HB.out | apply below_alloc | apply pw_below_drewN | apply below_drew1 | refine below_set ?_ GE286.out | refine below_set ?_ GE291.out) | exact HB.out)) hb)
                     clear HO_3
                     clear HO_12
                     clear HO_47
                     clear BK286
                     clear BK291
                     clear HB
                     have HO_3 := n0_
                     have HO_12 := n1_
                     have HO_47 := n2_
                     have BK286 := n3_
                     have BK291 := n4_
                     have HB := n5_
                     clear n0_ n1_ n2_ n3_ n4_ n5_
                     (try clear hb)
                     (try clear hb2)
                     (try clear hk)
                     (try clear hi)
                     refine hK.out _ _ ⟨(blk_cell BK286.out 0).trans rfl, (blk_cell BK286.out 1).trans rfl, (blk_cell BK286.out 2).trans rfl, (blk_cell BK286.out 3).trans rfl, (blk_cell BK291.out 0).trans rfl, (blk_cell BK291.out 1).trans rfl, (blk_cell BK291.out 2).trans rfl, (blk_cell BK291.out 3).trans rfl⟩ (fun hHeld => ?_)
                     clear hK K
                     refine norm_ (a' := ?_) ?_ ?_
                     rotate_left
                     ·show Act.put _ (some 100) _ = _
                      simp only [Act.put, List.setIfInBounds_toArray, List.set_cons_zero, List.set_cons_succ, i64_w, i32_w]
                      rfl
                     refine pure_ (i := 15) (N := some 104) (v := ?_) (a' := ?_) #[true, true, true, true, true, true, true, true, true, true, true, true, true, true, true, true, false, false, false, false, false, false, false, false, false] rfl rfl (any_of HT_.out (by kernel_rfl)) (fun _ _ _ h => h) (Or.inl ⟨by rfl, ?_⟩) ?_ ?_
                     rotate_left
                     ·intro w'
                      go_simp
                      with_reducible rfl
                     rotate_left
                     ·simp only [Act.put, List.setIfInBounds_toArray, List.set_cons_zero, List.set_cons_succ, i64_w, i32_w]
                      rfl
                     refine pure_ (i := 16) (N := some 105) (v := ?_) (a' := ?_) #[true, true, true, true, true, true, true, true, true, true, true, true, true, true, true, true, true, false, false, false, false, false, false, false, false] rfl rfl (any_of HT_.out (by kernel_rfl)) (fun _ _ _ h => h) (Or.inl ⟨by rfl, ?_⟩) ?_ ?_
                     rotate_left
                     ·intro w'
                      go_simp
                      with_reducible rfl
                     rotate_left
                     ·simp only [Act.put, List.setIfInBounds_toArray, List.set_cons_zero, List.set_cons_succ, i64_w, i32_w]
                      rfl
                     refine pure_ (i := 17) (N := some 106) (v := ?_) (a' := ?_) #[true, true, true, true, true, true, true, true, true, true, true, true, true, true, true, true, true, true, false, false, false, false, false, false, false] rfl rfl (any_of HT_.out (by kernel_rfl)) (fun _ _ _ h => h) (Or.inl ⟨by rfl, ?_⟩) ?_ ?_
                     rotate_left
                     ·intro w'
                      go_simp
                      with_reducible rfl
                     rotate_left
                     ·simp only [Act.put, List.setIfInBounds_toArray, List.set_cons_zero, List.set_cons_succ, i64_w, i32_w]
                      rfl
                     refine pure_ (i := 19) (N := some 108) (v := ?_) (a' := ?_) #[true, true, true, true, true, true, true, true, true, true, true, true, true, true, true, true, true, true, false, true, false, false, false, false, false] rfl rfl (any_of HT_.out (by kernel_rfl)) (fun _ _ _ h => h) (Or.inl ⟨by rfl, ?_⟩) ?_ ?_
                     rotate_left
                     ·intro w'
                      go_simp
                      with_reducible rfl
                     rotate_left
                     ·simp only [Act.put, List.setIfInBounds_toArray, List.set_cons_zero, List.set_cons_succ, i64_w, i32_w]
                      rfl
                     refine take_ (i := 18) (N := some 107) (v := ?_) (a' := ?_) #[true, true, true, true, true, true, true, true, true, true, true, true, true, true, true, true, true, true, true, true, false, false, false, false, false] rfl rfl (take_ofW HT_.out HW_.out (by kernel_rfl)) (fun _ _ _ h => h) (Or.inl ⟨by rfl, ?_⟩) hHeld ?_ ?_
                     rotate_left
                     ·rintro w' ⟨s0, s1, s2, s3, s4, s5, s6, s7⟩
                      go_simp
                      with_reducible rfl
                     rotate_left
                     ·simp only [Act.put, List.setIfInBounds_toArray, List.set_cons_zero, List.set_cons_succ, i64_w, i32_w]
                      rfl
                     refine take_ (i := 20) (N := some 109) (v := ?_) (a' := ?_) #[true, true, true, true, true, true, true, true, true, true, true, true, true, true, true, true, true, true, true, true, true, false, false, false, false] rfl rfl (take_ofW HT_.out HW_.out (by kernel_rfl)) (fun _ _ _ h => h) (Or.inl ⟨by rfl, ?_⟩) hHeld ?_ ?_
                     rotate_left
                     ·rintro w' ⟨s0, s1, s2, s3, s4, s5, s6, s7⟩
                      go_simp
                      with_reducible rfl
                     rotate_left
                     ·simp only [Act.put, List.setIfInBounds_toArray, List.set_cons_zero, List.set_cons_succ, i64_w, i32_w]
                      rfl
                     refine one_ (i := 21) (N := some 110) #[true, true, true, true, true, true, true, true, true, true, true, true, true, true, true, true, true, true, true, true, true, true, false, false, false] rfl rfl (one_of HT_.out (by kernel_rfl)) (by decide) (fun K hK => ?_)
                     refine goes_ Tryz.func12 (by kernel_rfl) rfl #[.slice (some ad285) t282.length co7, .int .u32 ((rd_T30 t282 x14_1).f3), .int .u32 ((rd_T30 t282 x49_3).f0)] (by rfl) rfl rfl (by (try simp only [List.map_toArray, List.map_cons, List.map_nil]); first | done | rfl | (simp only [List.length_drop, List.length_take]; rfl)) ?_
                     with_reducible refine (chart_Chart_Within.calls kj38 _ _ t282 ((rd_T30 t282 x14_1).f3) ((rd_T30 t282 x49_3).f0) t298 _ ?side1 ?side2 A126.out).mono ?_
                     (case side1 => repeat (first | exact (Kd.R_reads' HO_3.out).2.2 | (with_reducible refine Kd.C_alloc ?_ _) | (with_reducible refine Kd.C_drewN ?_ _) | (with_reducible refine Kd.C_drew ?_)))
                     (case side2 => exact (Kd.R_reads' HO_3.out).2.1)
                     rintro e w129 ⟨rfl, hb⟩
                     refine ⟨_, rfl, ?_⟩
                     have n0_ := Aside0.mk (Kd.R_below (by (with_reducible repeat (first | apply Kd.R_alloc | apply Kd.R_drewN | apply Kd.R_drew)); exact HO_3.out) hb)
                     have n1_ := Aside0.mk (Kd.R_below (by (with_reducible repeat (first | apply Kd.R_alloc | apply Kd.R_drewN | apply Kd.R_drew)); exact HO_12.out) hb)
                     have n2_ := Aside0.mk (Kd.R_below (by (with_reducible repeat (first | apply Kd.R_alloc | apply Kd.R_drewN | apply Kd.R_drew)); exact HO_47.out) hb)
                     have n3_ := Aside0.mk (blk_below (g := gb286) (o := .cells #[.int .u32 ((rd_T30 t282 x14_1).f0), .string ((rd_T30 t282 x14_1).f1), .int .u8 ((rd_T30 t282 x14_1).f2), .int .u32 ((rd_T30 t282 x14_1).f3)] 30 (0, 0)) (by (with_reducible repeat (first | refine blk_drewN ?_ _ | refine blk_drew ?_ | refine blk_alloc ?_ _)); exact BK286.out) hb)
                     have n4_ := Aside0.mk (blk_below (g := gb291) (o := .cells #[.int .u32 ((rd_T30 t282 x49_3).f0), .string ((rd_T30 t282 x49_3).f1), .int .u8 ((rd_T30 t282 x49_3).f2), .int .u32 ((rd_T30 t282 x49_3).f3)] 30 (0, 0)) (by (with_reducible repeat (first | refine blk_drewN ?_ _ | refine blk_drew ?_ | refine blk_alloc ?_ _)); exact BK291.out) hb)
                     have n5_ := Aside0.mk (below_step (by repeat (first | (with_reducible first | exact HB.out | apply below_alloc | apply pw_below_drewN | apply below_drew1 | refine below_set ?_ GE286.out | refine below_set ?_ GE291.out) | exact HB.out)) hb)
                     clear HO_3
                     clear HO_12
                     clear HO_47
                     clear BK286
                     clear BK291
                     clear HB
                     have HO_3 := n0_
                     have HO_12 := n1_
                     have HO_47 := n2_
                     have BK286 := n3_
                     have BK291 := n4_
                     have HB := n5_
                     clear n0_ n1_ n2_ n3_ n4_ n5_
                     (try clear hb)
                     (try clear hb2)
                     (try clear hk)
                     (try clear hi)
                     refine hK.out _ _ ⟨(blk_cell BK286.out 0).trans rfl, (blk_cell BK286.out 1).trans rfl, (blk_cell BK286.out 2).trans rfl, (blk_cell BK286.out 3).trans rfl, (blk_cell BK291.out 0).trans rfl, (blk_cell BK291.out 1).trans rfl, (blk_cell BK291.out 2).trans rfl, (blk_cell BK291.out 3).trans rfl⟩ (fun hHeld => ?_)
                     clear hK K
                     refine norm_ (a' := ?_) ?_ ?_
                     rotate_left
                     ·show Act.put _ (some 110) _ = _
                      simp only [Act.put, List.setIfInBounds_toArray, List.set_cons_zero, List.set_cons_succ, i64_w, i32_w]
                      rfl
                     refine pure_ (i := 22) (N := some 111) (v := ?_) (a' := ?_) #[true, true, true, true, true, true, true, true, true, true, true, true, true, true, true, true, true, true, true, true, true, true, true, false, false] rfl rfl (any_of HT_.out (by kernel_rfl)) (fun _ _ _ h => h) (Or.inl ⟨by rfl, ?_⟩) ?_ ?_
                     rotate_left
                     ·intro w'
                      go_simp
                      with_reducible rfl
                     rotate_left
                     ·simp only [Act.put, List.setIfInBounds_toArray, List.set_cons_zero, List.set_cons_succ, i64_w, i32_w]
                      rfl
                     refine pure_ (i := 23) (N := some 112) (v := ?_) (a' := ?_) #[true, true, true, true, true, true, true, true, true, true, true, true, true, true, true, true, true, true, true, true, true, true, true, true, false] rfl rfl (any_of HT_.out (by kernel_rfl)) (fun _ _ _ h => h) (Or.inl ⟨by rfl, ?_⟩) ?_ ?_
                     rotate_left
                     ·intro w'
                      go_simp
                      with_reducible rfl
                     rotate_left
                     ·simp only [Act.put, List.setIfInBounds_toArray, List.set_cons_zero, List.set_cons_succ, i64_w, i32_w]
                      rfl
                     refine pure_ (i := 24) (N := some 113) (v := ?_) (a' := ?_) #[true, true, true, true, true, true, true, true, true, true, true, true, true, true, true, true, true, true, true, true, true, true, true, true, true] rfl rfl (any_of HT_.out (by kernel_rfl)) (fun _ _ _ h => h) (Or.inl ⟨by rfl, ?_⟩) ?_ ?_
                     rotate_left
                     ·intro w'
                      go_simp
                      with_reducible rfl
                     rotate_left
                     ·simp only [Act.put, List.setIfInBounds_toArray, List.set_cons_zero, List.set_cons_succ, i64_w, i32_w]
                      rfl
                     refine done_ (done_of HT_.out (by kernel_rfl)) ?_
                     try go_wp2
                     go_meet
                     case rel => exact ⟨_, ((t297 != t298)), (by first | rfl | (simp; done) | (simp [*]; done)), H', ⟨by have := HK1.out; have := HJ10.out; have := HK3.out; have := HJ38.out; first | omega | exact Nat.le_refl _⟩, ⟨by (with_reducible repeat (first | apply Kd.R_alloc | apply Kd.R_drewN | apply Kd.R_drew)); exact HO_3.out⟩, ⟨by (with_reducible repeat (first | apply Kd.R_alloc | apply Kd.R_drewN | apply Kd.R_drew)); exact HO_12.out⟩, ⟨by (with_reducible repeat (first | apply Kd.R_alloc | apply Kd.R_drewN | apply Kd.R_drew)); exact HO_47.out⟩, ⟨by (with_reducible repeat (first | refine blk_drewN ?_ _ | refine blk_drew ?_ | refine blk_alloc ?_ _)); exact BK286.out⟩, ⟨by (with_reducible repeat (first | refine blk_drewN ?_ _ | refine blk_drew ?_ | refine blk_alloc ?_ _)); exact BK291.out⟩, ⟨by repeat (first | (with_reducible first | exact HB.out | apply below_alloc | apply pw_below_drewN | apply below_drew1 | refine below_set ?_ GE286.out | refine below_set ?_ GE291.out) | exact HB.out)⟩⟩
                  case rest =>
                   clear HC119
                   try clear c1
                   try clear p2
                   try clear c12
                   try clear c120
                   try clear c120b0
                   try clear c120b1
                   try clear c123
                   try clear c123b0
                   try clear c123b1
                   obtain ⟨kq, x113_118, rfl, HA, HJ118, HO_3, HO_12, HO_47, BK286, BK291, HB⟩ := hcut
                   cases kq with
                   | zero => exact absurd HA.out (by simp [transposallaw06_ChartTree.j4])
                   | succ kj118 =>
                    have H := HA.out
                    clear HA
                    simp only [transposallaw06_ChartTree.j4] at H
                    by_cases c130 : x113_118 = true
                    ·subst c130
                     have H1 : (some false) = some r := by rw [if_pos rfl] at H; exact H
                     clear H
                     have H := H1
                     clear H1
                     obtain rfl := Option.some.inj H
                     go_wp2
                     go_ret
                     exact ⟨by first | rfl | (simp [errW_none, errW_some] <;> rfl) | (simp [*, errW_none, errW_some] <;> rfl), by repeat (first | (with_reducible first | exact HB.out | apply below_alloc | apply pw_below_drewN | apply below_drew1 | refine below_set ?_ GE286.out | refine below_set ?_ GE291.out) | exact HB.out)⟩
                    ·replace c130 := Bool.eq_false_iff.mpr c130
                     subst c130
                     have H1 : (transposallaw06_ChartTree.l1 kj118 t282 t282 (t282.length : Int) x14_1 t282 (t282.length : Int) (wrap64 (x49_3 + 1)) ((rd_T30 t282 x14_1).f0) ((rd_T30 t282 x14_1).f1) ((rd_T30 t282 x14_1).f2) ((rd_T30 t282 x14_1).f3)) = some r := by rw [if_neg (show ¬ (false = true) by decide)] at H; exact H
                     clear H
                     have H := H1
                     clear H1
                     have H' := Aside0.mk H
                     clear H
                     go_wp2
                     go_roundg kj118
                     case measure => have := HK1.out; have := HJ10.out; have := HK3.out; have := HJ38.out; have := HJ118.out; omega
                     case rel => exact ⟨(wrap64 (x49_3 + 1)), (by first | rfl | (simp; done) | (simp [*]; done)), H', ⟨by have := HK1.out; have := HJ10.out; have := HK3.out; have := HJ38.out; have := HJ118.out; omega⟩, ⟨by (with_reducible repeat (first | apply Kd.R_alloc | apply Kd.R_drewN | apply Kd.R_drew)); exact Kd.R_mono HO_3.out (fun _ hk => hk.1)⟩, ⟨by (with_reducible repeat (first | apply Kd.R_alloc | apply Kd.R_drewN | apply Kd.R_drew)); exact Kd.R_mono HO_12.out (fun _ hk => hk.1)⟩, ⟨by (with_reducible repeat (first | apply Kd.R_alloc | apply Kd.R_drewN | apply Kd.R_drew)); exact Kd.R_mono HO_47.out (fun _ hk => hk.1)⟩, ⟨by (with_reducible repeat (first | refine blk_drewN ?_ _ | refine blk_drew ?_ | refine blk_alloc ?_ _)); exact BK286.out⟩, ⟨by repeat (first | (with_reducible first | exact HB.out | apply below_alloc | apply pw_below_drewN | apply below_drew1 | refine below_set ?_ GE286.out | refine below_set ?_ GE291.out) | exact HB.out)⟩⟩
              ·rw [if_neg c38] at H
               exact absurd H (by simp)
             ·rw [if_neg c37] at H
              exact absurd H (by simp)
            ·rw [if_neg c36] at H
             have c36b0 : decide (x49_3 < (t282.length : Int)) = false := decide_eq_false c36
             clear c36
             have H' := Aside0.mk H
             clear H
             go_wp2
             go_roundg k3
             case measure => have := HK1.out; have := HJ10.out; have := HK3.out; omega
             case rel => exact ⟨(wrap64 (x14_1 + 1)), (by first | rfl | (simp; done) | (simp [*]; done)), H', ⟨by have := HK1.out; have := HJ10.out; have := HK3.out; omega⟩, ⟨by (with_reducible repeat (first | apply Kd.R_alloc | apply Kd.R_drewN | apply Kd.R_drew)); exact Kd.R_mono HO_3.out (fun _ hk => trivial)⟩, ⟨by (with_reducible repeat (first | apply Kd.R_alloc | apply Kd.R_drewN | apply Kd.R_drew)); exact Kd.R_mono HO_12.out (fun _ hk => trivial)⟩, ⟨by repeat (first | (with_reducible first | exact HB.out | apply below_alloc | apply pw_below_drewN | apply below_drew1 | refine below_set ?_ GE286.out) | exact HB.out)⟩⟩
      ·rw [if_neg c10] at H
       exact absurd H (by simp)
     ·rw [if_neg c9] at H
      exact absurd H (by simp)
    ·rw [if_neg c8] at H
     have c8b0 : decide (x14_1 < (t282.length : Int)) = false := decide_eq_false c8
     clear c8
     obtain rfl := Option.some.inj H
     go_wp2
     go_ret
     exact ⟨by first | rfl | (simp [errW_none, errW_some] <;> rfl) | (simp [*, errW_none, errW_some] <;> rfl), by repeat (first | (with_reducible first | exact HB.out | apply below_alloc | apply pw_below_drewN | apply below_drew1) | exact HB.out)⟩
 ·replace c3 := Bool.eq_false_iff.mpr c3
  subst c3
  have H1 : (some false) = some r := by rw [if_neg (show ¬ (false = true) by decide)] at H; exact H
  clear H
  have H := H1
  clear H1
  obtain rfl := Option.some.inj H
  go_enter Tryz.func3, Tryz.ntmps3
  go_wp2_with (first | ((with_reducible refine gate_callee (f := 10) rfl ?_); refine goesL_ (some 8) rfl rfl Tryz.func10 (by kernel_rfl) rfl #[] rfl (by (try simp only [List.map_toArray, List.map_cons, List.map_nil]); first | done | rfl | (simp only [List.length_drop, List.length_take]; rfl)) ?_; (with_reducible refine (transposallaw06_Awake.calls k  false _ ?side1 A2.out).mono ?_); (case side1 => exact Glob.below (by repeat (first | (with_reducible first | exact HB.out | apply below_alloc | apply pw_below_drewN | apply below_drew1) | exact HB.out)) HG.out); rintro e w131 ⟨rfl, hb⟩; refine ⟨_, rfl, ?_⟩; have n0_ := Aside0.mk (below_step (by repeat (first | (with_reducible first | exact HB.out | apply below_alloc | apply pw_below_drewN | apply below_drew1) | exact HB.out)) hb); clear HB; have HB := n0_; clear n0_; (try clear hb); (try clear hb2); (try clear hk); (try clear hi)))
  go_ret
  exact ⟨by first | rfl | (simp [errW_none, errW_some] <;> rfl) | (simp [*, errW_none, errW_some] <;> rfl), by repeat (first | (with_reducible first | exact HB.out | apply below_alloc | apply pw_below_drewN | apply below_drew1) | exact HB.out)⟩

/-- THE ONE PURE STATEMENT of transposallaw06_ChartTree: yours. -/
def transposallaw06_ChartTree.Pure : Prop := ∀ (l0 : List (S59)), l0.length ≤ maxLen → (∀ y, y ∈ l0 → ((Lit.int .u8 y.f0).wf = true ∧ (Lit.int .u8 y.f1).wf = true ∧ (Lit.int .u8 y.f2).wf = true ∧ (Lit.int .u8 y.f3).wf = true)) → ∃ k, transposallaw06_ChartTree.f k l0 = some true

end Go.Proofs.YtnbdcpgaceongaaGreatDoor.XA
