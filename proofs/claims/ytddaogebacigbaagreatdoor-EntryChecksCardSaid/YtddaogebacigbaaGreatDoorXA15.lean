-- Written by a program of this session's (wip/xp) out of the translation; given functions by hand.
import Derived.Test.YtddaogebacigbaaGreatDoorXA0
import Derived.Test.YtddaogebacigbaaGreatDoorXA4
import Derived.Test.YtddaogebacigbaaGreatDoorXA10
import Derived.Test.YtddaogebacigbaaGreatDoorXA14
namespace Go.Proofs.YtddaogebacigbaaGreatDoor.XA
open Go.RowKit Go.Proofs.YtddaogebacigbaaGreatDoorW.PrintWords Go.Proofs.YtddaogebacigbaaGreatDoorW.PrintLast Go.Proofs.YtddaogebacigbaaGreatDoorW.PrintMore
attribute [local go_sem] max2_int min2_int max_two min_two max_three min_three max_four min_four   -- for this text's walks alone
set_option linter.unusedVariables false
set_option linter.unusedSimpArgs false

/-! ### transposallaw09_EntryChecks: function 4 -/
theorem xqTwice (w : World) (g o : Nat) (u v : Value) : ((w.setCell ⟨g, o, none⟩ u).setCell ⟨g, o, none⟩ v).cell? ⟨g, o, none⟩ = (w.setCell ⟨g, o, none⟩ v).cell? ⟨g, o, none⟩ := by
  have e : (w.setCell ⟨g, o, none⟩ u).setCell ⟨g, o, none⟩ v = w.setCell ⟨g, o, none⟩ v := by
    unfold World.setCell
    dsimp only
    congr 1
    apply Array.ext_getElem?
    intro j
    simp only [Array.getElem?_modify]
    split
    · cases w.heap[j]? with
      | none => rfl
      | some b => cases b <;> simp
    · rfl
  rw [e]
attribute [local go_sem high] xqTwice
mutual
def transposallaw09_EntryChecks.l0 : Nat → Int → List (S28) → Bool → Bool → Int → Int → Int → Option (Bool)
 | 0, _, _, _, _, _, _, _ => none
 | k + 1, x0, x1, x2, x3, x4, x23, x24 => if x24 < x23 then (if x3 = true then (if 0 ≤ x24 then (if x24 < (x1.length : Int) then (transposallaw09_EntryChecks.l0 k x0 (x1.set (x24 : Int).toNat (⟨(rd_T28 x1 x24).f0, Int.tmod ((rd_T28 x1 x24).f1) 2, (rd_T28 x1 x24).f2, (rd_T28 x1 x24).f3⟩ : S28)) x2 x3 x4 x23 (wrap64 (x24 + 1))) else (none)) else (none)) else (transposallaw09_EntryChecks.l0 k x0 x1 x2 x3 x4 x23 (wrap64 (x24 + 1)))) else (if x2 = true then ((entry_Line_14.f x1).bind fun t322 => (transposallaw09_EntryChecks.l1 k x0 x1 x4 t322 (t322.length : Int) 0)) else ((entry_Journal_Check.f k x0 x1).bind fun t339 => ((transposallaw09_Check.f k x0 x1).bind fun t340 => (some (t339 == t340)))))
def transposallaw09_EntryChecks.l1 : Nat → Int → List (S28) → Int → List (S28) → Int → Int → Option (Bool)
 | 0, _, _, _, _, _, _ => none
 | k + 1, x0, x1, x4, x39, x40, x41 => if x41 < x40 then (if 0 ≤ x41 then (if x41 < (x39.length : Int) then (if x1.length < 8796093022208 then (transposallaw09_EntryChecks.l1 k x0 (x1 ++ [(⟨(rd_T28 x39 x41).f0, (rd_T28 x39 x41).f1, (rd_T28 x39 x41).f2, wrap64 (-((rd_T28 x39 x41).f3))⟩ : S28)]) x4 x39 x40 (wrap64 (x41 + 1))) else (none)) else (none)) else (none)) else (if (x1.length : Int) > 0 then (transposallaw09_EntryChecks.j2 k x0 x1 x4 ((Int.tmod x4 4) == 0)) else (transposallaw09_EntryChecks.j2 k x0 x1 x4 false))
def transposallaw09_EntryChecks.j2 : Nat → Int → List (S28) → Int → Bool → Option (Bool)
 | 0, _, _, _, _ => none
 | k + 1, x0, x1, x4, x61 => if x61 = true then (if 0 < (x1.length : Int) then ((some (x1.set (0 : Int).toNat (⟨(rd_T28 x1 0).f0, (rd_T28 x1 0).f1, (rd_T28 x1 0).f2, wrap64 (((rd_T28 x1 0).f3) + x4)⟩ : S28) : List (S28))).bind fun y331 => ((entry_Journal_Check.f k (Int.tmod x0 100000) y331).bind fun t333 => ((transposallaw09_Check.f k (Int.tmod x0 100000) y331).bind fun t334 => (some (t333 == t334))))) else (none)) else ((entry_Journal_Check.f k (Int.tmod x0 100000) x1).bind fun t336 => ((transposallaw09_Check.f k (Int.tmod x0 100000) x1).bind fun t337 => (some (t336 == t337))))
end
def transposallaw09_EntryChecks.f (k : Nat) (a0 : Int) (l1 : List (S28)) (a2 : Bool) (a3 : Bool) (a4 : Int) : Option (Bool) := (transposallaw09_Awake.f k).bind fun t316 => (if t316 = true then (if (l1.length : Int) > 31 then (some true) else ((entry_Line_14.f l1).bind fun t317 => (transposallaw09_EntryChecks.l0 k a0 t317 a2 a3 a4 (t317.length : Int) 0))) else (some false))
theorem transposallaw09_EntryChecks.mono_l : ∀ k, (∀ y0 y1 y2 y3 y4 y5 y6, LeO (transposallaw09_EntryChecks.l0 k y0 y1 y2 y3 y4 y5 y6) (transposallaw09_EntryChecks.l0 (k + 1) y0 y1 y2 y3 y4 y5 y6)) ∧ (∀ y0 y1 y2 y3 y4 y5, LeO (transposallaw09_EntryChecks.l1 k y0 y1 y2 y3 y4 y5) (transposallaw09_EntryChecks.l1 (k + 1) y0 y1 y2 y3 y4 y5)) ∧ (∀ y0 y1 y2 y3, LeO (transposallaw09_EntryChecks.j2 k y0 y1 y2 y3) (transposallaw09_EntryChecks.j2 (k + 1) y0 y1 y2 y3))
 | 0 => ⟨fun _ _ _ _ _ _ _ r h => by simp [transposallaw09_EntryChecks.l0] at h, fun _ _ _ _ _ _ r h => by simp [transposallaw09_EntryChecks.l1] at h, fun _ _ _ _ r h => by simp [transposallaw09_EntryChecks.j2] at h⟩
 | k + 1 => by
  obtain ⟨ih0, ih1, ih2⟩ := transposallaw09_EntryChecks.mono_l k
  refine ⟨?_, ?_, ?_⟩
  ·intro y0 y1 y2 y3 y4 y5 y6
   unfold transposallaw09_EntryChecks.l0
   repeat' first
   | (with_reducible exact ih0 _ _ _ _ _ _ _)
   | (with_reducible exact ih1 _ _ _ _ _ _)
   | (with_reducible exact ih2 _ _ _ _)
   | (with_reducible exact entry_Journal_Check.mono _ _ _)
   | (with_reducible exact transposallaw09_Awake.mono _)
   | (with_reducible exact transposallaw09_Check.mono _ _ _)
   | (with_reducible exact LeO.refl _)
   | (with_reducible exact LeO.none _)
   | (with_reducible refine LeO.ite ?_ ?_)
   | (with_reducible refine LeO.bind ?_ (fun _ => ?_))
   | exact ih0 _ _ _ _ _ _ _
   | exact ih1 _ _ _ _ _ _
   | exact ih2 _ _ _ _
   | exact entry_Journal_Check.mono _ _ _
   | exact transposallaw09_Awake.mono _
   | exact transposallaw09_Check.mono _ _ _
   | exact LeO.none _
   | refine LeO.ite ?_ ?_
   | refine LeO.bind ?_ (fun _ => ?_)
  ·intro y0 y1 y2 y3 y4 y5
   unfold transposallaw09_EntryChecks.l1
   repeat' first
   | (with_reducible exact ih0 _ _ _ _ _ _ _)
   | (with_reducible exact ih1 _ _ _ _ _ _)
   | (with_reducible exact ih2 _ _ _ _)
   | (with_reducible exact entry_Journal_Check.mono _ _ _)
   | (with_reducible exact transposallaw09_Awake.mono _)
   | (with_reducible exact transposallaw09_Check.mono _ _ _)
   | (with_reducible exact LeO.refl _)
   | (with_reducible exact LeO.none _)
   | (with_reducible refine LeO.ite ?_ ?_)
   | (with_reducible refine LeO.bind ?_ (fun _ => ?_))
   | exact ih0 _ _ _ _ _ _ _
   | exact ih1 _ _ _ _ _ _
   | exact ih2 _ _ _ _
   | exact entry_Journal_Check.mono _ _ _
   | exact transposallaw09_Awake.mono _
   | exact transposallaw09_Check.mono _ _ _
   | exact LeO.none _
   | refine LeO.ite ?_ ?_
   | refine LeO.bind ?_ (fun _ => ?_)
  ·intro y0 y1 y2 y3
   unfold transposallaw09_EntryChecks.j2
   repeat' first
   | (with_reducible exact ih0 _ _ _ _ _ _ _)
   | (with_reducible exact ih1 _ _ _ _ _ _)
   | (with_reducible exact ih2 _ _ _ _)
   | (with_reducible exact entry_Journal_Check.mono _ _ _)
   | (with_reducible exact transposallaw09_Awake.mono _)
   | (with_reducible exact transposallaw09_Check.mono _ _ _)
   | (with_reducible exact LeO.refl _)
   | (with_reducible exact LeO.none _)
   | (with_reducible refine LeO.ite ?_ ?_)
   | (with_reducible refine LeO.bind ?_ (fun _ => ?_))
   | exact ih0 _ _ _ _ _ _ _
   | exact ih1 _ _ _ _ _ _
   | exact ih2 _ _ _ _
   | exact entry_Journal_Check.mono _ _ _
   | exact transposallaw09_Awake.mono _
   | exact transposallaw09_Check.mono _ _ _
   | exact LeO.none _
   | refine LeO.ite ?_ ?_
   | refine LeO.bind ?_ (fun _ => ?_)
theorem transposallaw09_EntryChecks.mono : ∀ a0 a1 a2 a3 a4 k, LeO (transposallaw09_EntryChecks.f k a0 a1 a2 a3 a4) (transposallaw09_EntryChecks.f (k + 1) a0 a1 a2 a3 a4) := by
 intro a0 a1 a2 a3 a4 k
 obtain ⟨ih0, ih1, ih2⟩ := transposallaw09_EntryChecks.mono_l k
 unfold transposallaw09_EntryChecks.f
 repeat' first
   | (with_reducible exact ih0 _ _ _ _ _ _ _)
   | (with_reducible exact ih1 _ _ _ _ _ _)
   | (with_reducible exact ih2 _ _ _ _)
   | (with_reducible exact entry_Journal_Check.mono _ _ _)
   | (with_reducible exact transposallaw09_Awake.mono _)
   | (with_reducible exact transposallaw09_Check.mono _ _ _)
   | (with_reducible exact LeO.refl _)
   | (with_reducible exact LeO.none _)
   | (with_reducible refine LeO.ite ?_ ?_)
   | (with_reducible refine LeO.bind ?_ (fun _ => ?_))
   | exact ih0 _ _ _ _ _ _ _
   | exact ih1 _ _ _ _ _ _
   | exact ih2 _ _ _ _
   | exact entry_Journal_Check.mono _ _ _
   | exact transposallaw09_Awake.mono _
   | exact transposallaw09_Check.mono _ _ _
   | exact LeO.none _
   | refine LeO.ite ?_ ?_
   | refine LeO.bind ?_ (fun _ => ?_)
set_option maxHeartbeats 8000000 in
set_option maxRecDepth 100000 in
theorem transposallaw09_EntryChecks.calls (k : Nat) (a0 : Int) (A1 : Option Addr) (c1 : Nat) (l1 : List (S28)) (a2 : Bool) (a3 : Bool) (a4 : Int) (r : Bool) (w : World) (hr1 : Kd.C k28 w A1 l1.length l1) (hc1 : l1.length ≤ c1) (hG : Glob w) (h : transposallaw09_EntryChecks.f k a0 l1 a2 a3 a4 = some r) :
  Calls Tryz.prog 4 #[.int .i32 a0, .slice A1 l1.length c1, .bool a2, .bool a3, .int .i64 a4] w fun e w' => e = .returned (.bool r) ∧ Below w.heap.size w w' := by
 have hu28 := Tryz.underlying28
 have hu32 := Tryz.underlying32
 have HG := Aside0.mk hG
 clear hG
 have HR1 := Aside0.mk hr1
 have HC1 := Aside0.mk hc1
 clear hr1 hc1
 have HB := Aside0.mk (Below.refl w.heap.size w)
 have H : ((transposallaw09_Awake.f k).bind fun t316 => (if t316 = true then (if (l1.length : Int) > 31 then (some true) else ((entry_Line_14.f l1).bind fun t317 => (transposallaw09_EntryChecks.l0 k a0 t317 a2 a3 a4 (t317.length : Int) 0))) else (some false))) = some r := h
 clear h
 replace H := Option.bind_eq_some_iff.mp H
 obtain ⟨t316, A60, H⟩ := H
 replace H : (if t316 = true then (if (l1.length : Int) > 31 then (some true) else ((entry_Line_14.f l1).bind fun t317 => (transposallaw09_EntryChecks.l0 k a0 t317 a2 a3 a4 (t317.length : Int) 0))) else (some false)) = some r := H
 have A6 := Aside0.mk A60
 clear A60
 by_cases c7 : t316 = true
 ·subst c7
  have H1 : (if (l1.length : Int) > 31 then (some true) else ((entry_Line_14.f l1).bind fun t317 => (transposallaw09_EntryChecks.l0 k a0 t317 a2 a3 a4 (t317.length : Int) 0))) = some r := by rw [if_pos rfl] at H; exact H
  clear H
  have H := H1
  clear H1
  by_cases c8 : (l1.length : Int) > 31
  ·rw [if_pos c8] at H
   have c8b0 : decide (31 < (l1.length : Int)) = true := decide_eq_true c8
   have c8b1 : decide (31 < l1.length) = true := decide_eq_true (by omega)
   clear c8
   obtain rfl := Option.some.inj H
   go_enter Tryz.func4, Tryz.ntmps4
   go_wp2_with (first | ((with_reducible refine gate_callee (f := 13) rfl ?_); refine goesL_ (some 15) rfl rfl Tryz.func13 (by kernel_rfl) rfl #[] rfl (by (try simp only [List.map_toArray, List.map_cons, List.map_nil]); first | done | rfl | (simp only [List.length_drop, List.length_take]; rfl)) ?_; (with_reducible refine (transposallaw09_Awake.calls k  true _ ?side1 A6.out).mono ?_); (case side1 => exact Glob.below (by repeat (first | (with_reducible first | exact HB.out | apply below_alloc | apply pw_below_drewN | apply below_drew1) | exact HB.out)) HG.out); rintro e w9 ⟨rfl, hb⟩; refine ⟨_, rfl, ?_⟩; have n0_ := Aside0.mk (below_step (by repeat (first | (with_reducible first | exact HB.out | apply below_alloc | apply pw_below_drewN | apply below_drew1) | exact HB.out)) hb); clear HB; have HB := n0_; clear n0_; (try clear hb); (try clear hb2); (try clear hk); (try clear hi)))
   go_ret
   exact ⟨by first | rfl | (simp [errW_none, errW_some] <;> rfl) | (simp [*, errW_none, errW_some] <;> rfl), by repeat (first | (with_reducible first | exact HB.out | apply below_alloc | apply pw_below_drewN | apply below_drew1) | exact HB.out)⟩
  ·rw [if_neg c8] at H
   have c8b0 : decide (31 < (l1.length : Int)) = false := decide_eq_false c8
   have c8b1 : decide (31 < l1.length) = false := decide_eq_false (by omega)
   clear c8
   replace H := Option.bind_eq_some_iff.mp H
   obtain ⟨t317, A100, H⟩ := H
   replace H : (transposallaw09_EntryChecks.l0 k a0 t317 a2 a3 a4 (t317.length : Int) 0) = some r := H
   have A10 := Aside0.mk A100
   clear A100
   have H' := Aside0.mk H
   clear H
   go_enter Tryz.func4, Tryz.ntmps4
   go_wp2_with (first | ((with_reducible refine gate_callee (f := 13) rfl ?_); refine goesL_ (some 15) rfl rfl Tryz.func13 (by kernel_rfl) rfl #[] rfl (by (try simp only [List.map_toArray, List.map_cons, List.map_nil]); first | done | rfl | (simp only [List.length_drop, List.length_take]; rfl)) ?_; (with_reducible refine (transposallaw09_Awake.calls k  true _ ?side1 A6.out).mono ?_); (case side1 => exact Glob.below (by repeat (first | (with_reducible first | exact HB.out | apply below_alloc | apply pw_below_drewN | apply below_drew1) | exact HB.out)) HG.out); rintro e w11 ⟨rfl, hb⟩; refine ⟨_, rfl, ?_⟩; have n0_ := Aside0.mk (below_step (by repeat (first | (with_reducible first | exact HB.out | apply below_alloc | apply pw_below_drewN | apply below_drew1) | exact HB.out)) hb); clear HB; have HB := n0_; clear n0_; (try clear hb); (try clear hb2); (try clear hk); (try clear hi)) | ((with_reducible refine gate_callee (f := 14) rfl ?_); refine goesL_ (some 21) rfl rfl Tryz.func14 (by kernel_rfl) rfl #[.slice A1 l1.length c1] rfl (by (try simp only [List.map_toArray, List.map_cons, List.map_nil]); first | done | rfl | (simp only [List.length_drop, List.length_take]; rfl)) ?_; (with_reducible refine (entry_Line_14.calls _ _ l1 t317 _ ?side1 ?side2 A10.out).mono ?_); (case side1 => repeat (first | exact (Kd.C_below HR1.out HB.out) | (with_reducible refine Kd.C_alloc ?_ _) | (with_reducible refine Kd.C_drewN ?_ _) | (with_reducible refine Kd.C_drew ?_))); (case side2 => exact HC1.out); rintro e w12 ⟨v318, rfl, ho0, hb⟩; refine ⟨_, rfl, ?_⟩; have n0_ := Aside0.mk (Kd.R_lower ho0 (below_size (by repeat (first | (with_reducible first | exact HB.out | apply below_alloc | apply pw_below_drewN | apply below_drew1) | exact HB.out)))); have n1_ := Aside0.mk (below_step (by repeat (first | (with_reducible first | exact HB.out | apply below_alloc | apply pw_below_drewN | apply below_drew1) | exact HB.out)) hb); clear HB; have HO319 := n0_; have HB := n1_; clear n0_ n1_; (try clear hb); (try clear hb2); (try clear hk); (try clear hi); (try clear ho0); obtain ⟨Ao13, co13, eo13⟩ := Kd.R_slice HO319.out; subst eo13))
   go_loopg [24] k (fun kq v24 w' => ∃ (x1_1 : List (S28)) (x24_1 : Int), v24 = .int .i64 x24_1 ∧ Aside0 (transposallaw09_EntryChecks.l0 kq a0 x1_1 a2 a3 a4 (t317.length : Int) x24_1 = some r) ∧ Aside0 (kq ≤ k) ∧ Aside0 (Kd.R k28 28 w' w.heap.size (fun _ => True) (.slice Ao13 t317.length co13) x1_1) ∧ Aside0 (Below w.heap.size w w'))
   case atStart => exact ⟨(t317), (0), (by first | rfl | (simp; done) | (simp [*]; done)), H', ⟨Nat.le_refl _⟩, ⟨by (with_reducible repeat (first | apply Kd.R_alloc | apply Kd.R_drewN | apply Kd.R_drew)); exact HO319.out⟩, ⟨by repeat (first | (with_reducible first | exact HB.out | apply below_alloc | apply pw_below_drewN | apply below_drew1) | exact HB.out)⟩⟩
   case round =>
    clear H'
    try clear c1
    try clear p2
    try clear c4
    try clear c7
    try clear c8
    try clear c8b0
    try clear c8b1
    try clear c13
    obtain ⟨x1_1, x24_1, rfl, HA, HK1, HO_1, HB⟩ := hrel
    have hl1_1 := (Kd.R_reads' HO_1.out).1
    rw [hl1_1] at HO_1
    (try simp only [hl1_1])
    cases gk with
    | zero => exact absurd HA.out (by simp [transposallaw09_EntryChecks.l0])
    | succ k1 =>
     have H := HA.out
     clear HA
     simp only [transposallaw09_EntryChecks.l0] at H
     by_cases c14 : x24_1 < (t317.length : Int)
     ·rw [if_pos c14] at H
      have c14b0 : decide (x24_1 < (t317.length : Int)) = true := decide_eq_true c14
      have c14b5 := c14b0
      (try rw [hl1_1] at c14b5)
      clear c14
      by_cases c15 : a3 = true
      ·subst c15
       have H1 : (if 0 ≤ x24_1 then (if x24_1 < (x1_1.length : Int) then (transposallaw09_EntryChecks.l0 k1 a0 (x1_1.set (x24_1 : Int).toNat (⟨(rd_T28 x1_1 x24_1).f0, Int.tmod ((rd_T28 x1_1 x24_1).f1) 2, (rd_T28 x1_1 x24_1).f2, (rd_T28 x1_1 x24_1).f3⟩ : S28)) a2 true a4 (t317.length : Int) (wrap64 (x24_1 + 1))) else (none)) else (none)) = some r := by rw [if_pos rfl] at H; exact H
       clear H
       have H := H1
       clear H1
       by_cases c16 : 0 ≤ x24_1
       ·rw [if_pos c16] at H
        have c16b0 : decide (0 ≤ x24_1) = true := decide_eq_true c16
        clear c16
        by_cases c17 : x24_1 < (x1_1.length : Int)
        ·rw [if_pos c17] at H
         have c17b0 : decide (x24_1 < (x1_1.length : Int)) = true := decide_eq_true c17
         clear c17
         obtain ⟨y321, hy321⟩ : ∃ y_ : List (S28), y_ = (x1_1.set (x24_1 : Int).toNat (⟨(rd_T28 x1_1 x24_1).f0, Int.tmod ((rd_T28 x1_1 x24_1).f1) 2, (rd_T28 x1_1 x24_1).f2, (rd_T28 x1_1 x24_1).f3⟩ : S28)) := ⟨_, rfl⟩
         replace H : (transposallaw09_EntryChecks.l0 k1 a0 y321 a2 true a4 (t317.length : Int) (wrap64 (x24_1 + 1))) = some r := by first | (rw [hy321]; with_reducible exact H) | (have H2_ := (Option.bind_some _ _).symm.trans H; rw [hy321]; with_reducible exact H2_) | (have H2_ := (Option.bind_some _ _).symm.trans H; with_reducible exact H2_) | with_reducible exact H | (rw [hy321]; exact H) | exact H
         have Ny321 := Aside0.mk hy321
         clear hy321
         have H' := Aside0.mk H
         clear H
         have p320 : 0 ≤ (x24_1 : Int) := of_decide_eq_true (by first | (with_reducible assumption) | assumption)
         have q320 : x24_1 < (x1_1.length : Int) := of_decide_eq_true (by first | (with_reducible assumption) | assumption)
         obtain ⟨ad320, e320, hx320_0, hx320_1, hx320_2, hx320_3⟩ := at_T28 (Kd.R_reads' HO_1.out).2.2 x24_1 p320 q320
         cases e320
         replace p320 := eq_true p320
         replace q320 := eq_true q320
         have p18 : 0 ≤ (x24_1 : Int) := of_decide_eq_true (by first | (with_reducible assumption) | assumption)
         have q18 : (x24_1 : Int) < ((x1_1.length : Int) : Int) := of_decide_eq_true (by first | (with_reducible assumption) | assumption)
         obtain ⟨go18, co18, eo18, gb18, gl18, cl18, HG18⟩ := Kd.R_form HO_1.out (by omega)
         (first | cases eo18 | (injection eo18 with ea_ en_ ec_; (first | subst ea_ | (injection ea_ with ea_; subst ea_)); subst ec_; clear en_))
         have GB18 := Aside0.mk gb18
         have GG18 := Aside0.mk HG18
         clear gb18 gl18 HG18
         (first | simp only [add_plain] at hx320_0 | skip)
         (first | simp only [add_plain] at hx320_1 | skip)
         (first | simp only [add_plain] at hx320_2 | skip)
         (first | simp only [add_plain] at hx320_3 | skip)
         obtain ⟨ce18, hcl18, hM18, hcc18, hfr18⟩ := Kd.R_elem HO_1.out z28 (x24_1 : Int) p18 q18
         obtain rfl := k28_openM hM18
         have hx18_0 : wr.cell? ⟨go18, (x24_1 : Int).toNat * 4, none⟩ = some (.int .u32 ((rd_T28 x1_1 x24_1).f0)) := hcc18 0 _ rfl
         have hx18_1 : wr.cell? ⟨go18, (x24_1 : Int).toNat * 4 + 1, none⟩ = some (.int .u16 ((rd_T28 x1_1 x24_1).f1)) := hcc18 1 _ rfl
         have hx18_2 : wr.cell? ⟨go18, (x24_1 : Int).toNat * 4 + 2, none⟩ = some (.int .u16 ((rd_T28 x1_1 x24_1).f2)) := hcc18 2 _ rfl
         have hx18_3 : wr.cell? ⟨go18, (x24_1 : Int).toNat * 4 + 3, none⟩ = some (.int .i64 ((rd_T28 x1_1 x24_1).f3)) := hcc18 3 _ rfl
         have hf18_0 : wr.frozen? ⟨go18, (x24_1 : Int).toNat * 4, none⟩ = false := hfr18 0
         have hf18_1 : wr.frozen? ⟨go18, (x24_1 : Int).toNat * 4 + 1, none⟩ = false := hfr18 1
         have hf18_2 : wr.frozen? ⟨go18, (x24_1 : Int).toNat * 4 + 2, none⟩ = false := hfr18 2
         have hf18_3 : wr.frozen? ⟨go18, (x24_1 : Int).toNat * 4 + 3, none⟩ = false := hfr18 3
         clear hcl18 hcc18 hfr18 hM18
         replace p18 := eq_true p18
         replace q18 := eq_true q18
         have HX19 := Aside0.mk (show Kd.R k28 28 wr w.heap.size (fun _ => True) (.slice (some ⟨go18, 0, none⟩) x1_1.length co13) x1_1 from (by (with_reducible repeat (first | apply Kd.R_alloc | apply Kd.R_drewN | apply Kd.R_drew)); exact HO_1.out))
         obtain ⟨ce19, hcl19, hM19, hcc19, hfr19⟩ := Kd.R_elem HX19.out z28 (x24_1 : Int) (of_decide_eq_true (by first | (with_reducible assumption) | assumption)) (by have h_ : (x24_1 : Int) < ((x1_1.length : Int) : Int) := of_decide_eq_true (by first | (with_reducible assumption) | assumption); first | exact h_ | (have e_ := (Kd.R_reads' HO_1.out).1; omega) | simpa using h_)
         obtain rfl := k28_openM hM19
         have HP19 := Kd.R_seg HX19.out (x24_1 : Int) (of_decide_eq_true (by first | (with_reducible assumption) | assumption)) (by have h_ : (x24_1 : Int) < ((x1_1.length : Int) : Int) := of_decide_eq_true (by first | (with_reducible assumption) | assumption); first | exact h_ | (have e_ := (Kd.R_reads' HO_1.out).1; omega) | simpa using h_) (seg := [.int .u16 (Int.tmod ((rd_T28 x1_1 x24_1).f1) 2)]) (j := 1) hcl19 hcc19 (show 2 ≤ 4 from by decide) (x' := (⟨(rd_T28 x1_1 x24_1).f0, Int.tmod ((rd_T28 x1_1 x24_1).f1) 2, (rd_T28 x1_1 x24_1).f2, (rd_T28 x1_1 x24_1).f3⟩ : S28)) (k28_mkM _ _ _ (⟨(rd_T28 x1_1 x24_1).f0, Int.tmod ((rd_T28 x1_1 x24_1).f1) 2, (rd_T28 x1_1 x24_1).f2, (rd_T28 x1_1 x24_1).f3⟩ : S28) ) (fun _ hk => hk)
         have hx19_1 := hcc19 1 _ rfl
         (try simp only [show (k28).sz = 4 from rfl, Nat.mul_one, Nat.add_zero] at hx19_1)
         have hf19_1 := hfr19 1
         (try simp only [show (k28).sz = 4 from rfl, Nat.mul_one, Nat.add_zero] at hf19_1)
         clear hcl19 hcc19 hfr19 hM19
         go_wp2_with (first | ((with_reducible refine gate_store (t := 26) (p := 35) rfl ?_); refine store_event (t := 26) (p := 35) (v := ?vo_w20) (w1 := (wr.setCell ⟨go18, (x24_1 : Int).toNat * 4 + 1, none⟩ (.int .u16 (Int.tmod ((rd_T28 x1_1 x24_1).f1) 2)))) ?hg ?ho ?hn ?hr ?_; (case ho => rfl); (case hg => rfl); (case hn => rfl); (case hr => first | (go_simp; done) | (go_simp; rfl)); intro w20 hw; have hg : wr.grownBy w20 (some go18) := (by rw [hw]; exact HP19.2); have hp_ : Kd.R k28 28 w20 w.heap.size (fun _ => True) (.slice (some ⟨go18, 0, none⟩) x1_1.length co13) y321 := (by rw [hw, Ny321.out]; exact HP19.1); clear HP19; have n0_ := Aside0.mk (hp_); have n1_ := Aside0.mk ((by rw [hw]; exact below_set (HB.out) GB18.out : Below w.heap.size w w20)); clear HO_1; clear HB; have HO_1 := n0_; have HB := n1_; clear n0_ n1_; clear hg hw hp_))
         (try simp only [← hl1_1])
         go_roundg k1
         case measure => have := HK1.out; omega
         case rel => exact ⟨(y321), (wrap64 (x24_1 + 1)), (by first | rfl | (simp; done) | (simp [*]; done)), H', ⟨by have := HK1.out; omega⟩, ⟨by (try simp only [hl1_1]); (with_reducible repeat (first | apply Kd.R_alloc | apply Kd.R_drewN | apply Kd.R_drew)); exact HO_1.out⟩, ⟨by repeat (first | (with_reducible first | exact HB.out | apply below_alloc | apply pw_below_drewN | apply below_drew1) | exact HB.out)⟩⟩
        ·rw [if_neg c17] at H
         exact absurd H (by simp)
       ·rw [if_neg c16] at H
        exact absurd H (by simp)
      ·replace c15 := Bool.eq_false_iff.mpr c15
       subst c15
       have H1 : (transposallaw09_EntryChecks.l0 k1 a0 x1_1 a2 false a4 (t317.length : Int) (wrap64 (x24_1 + 1))) = some r := by rw [if_neg (show ¬ (false = true) by decide)] at H; exact H
       clear H
       have H := H1
       clear H1
       have H' := Aside0.mk H
       clear H
       go_wp2
       (try simp only [← hl1_1])
       go_roundg k1
       case measure => have := HK1.out; omega
       case rel => exact ⟨(x1_1), (wrap64 (x24_1 + 1)), (by first | rfl | (simp; done) | (simp [*]; done)), H', ⟨by have := HK1.out; omega⟩, ⟨by (try simp only [hl1_1]); (with_reducible repeat (first | apply Kd.R_alloc | apply Kd.R_drewN | apply Kd.R_drew)); exact HO_1.out⟩, ⟨by repeat (first | (with_reducible first | exact HB.out | apply below_alloc | apply pw_below_drewN | apply below_drew1) | exact HB.out)⟩⟩
     ·rw [if_neg c14] at H
      have c14b0 : decide (x24_1 < (t317.length : Int)) = false := decide_eq_false c14
      have c14b5 := c14b0
      (try rw [hl1_1] at c14b5)
      clear c14
      by_cases c21 : a2 = true
      ·subst c21
       have H1 : ((entry_Line_14.f x1_1).bind fun t322 => (transposallaw09_EntryChecks.l1 k1 a0 x1_1 a4 t322 (t322.length : Int) 0)) = some r := by rw [if_pos rfl] at H; exact H
       clear H
       have H := H1
       clear H1
       replace H := Option.bind_eq_some_iff.mp H
       obtain ⟨t322, A220, H⟩ := H
       replace H : (transposallaw09_EntryChecks.l1 k1 a0 x1_1 a4 t322 (t322.length : Int) 0) = some r := H
       have A22 := Aside0.mk A220
       clear A220
       have H' := Aside0.mk H
       clear H
       go_wp2_with (first | ((with_reducible refine gate_callee (f := 14) rfl ?_); refine goesL_ (some 39) rfl rfl Tryz.func14 (by kernel_rfl) rfl #[.slice Ao13 x1_1.length co13] rfl (by (try simp only [List.map_toArray, List.map_cons, List.map_nil]); first | done | rfl | (simp only [List.length_drop, List.length_take]; rfl)) ?_; (with_reducible refine (entry_Line_14.calls _ _ x1_1 t322 _ ?side1 ?side2 A22.out).mono ?_); (case side1 => repeat (first | exact (Kd.R_reads' HO_1.out).2.2 | (with_reducible refine Kd.C_alloc ?_ _) | (with_reducible refine Kd.C_drewN ?_ _) | (with_reducible refine Kd.C_drew ?_))); (case side2 => exact (Kd.R_reads' HO_1.out).2.1); rintro e w23 ⟨v323, rfl, ho0, hb⟩; refine ⟨_, rfl, ?_⟩; have n0_ := Aside0.mk (Kd.R_elder' (by (with_reducible repeat (first | apply Kd.R_alloc | apply Kd.R_drewN | apply Kd.R_drew)); exact HO_1.out) (Kd.R_base ho0) hb); have n1_ := Aside0.mk (Kd.R_lower (Kd.R_new' ho0 (Kd.R_lt (by (with_reducible repeat (first | apply Kd.R_alloc | apply Kd.R_drewN | apply Kd.R_drew)); exact HO_1.out))) (below_size (by repeat (first | (with_reducible first | exact HB.out | apply below_alloc | apply pw_below_drewN | apply below_drew1) | exact HB.out)))); have n2_ := Aside0.mk (below_step (by repeat (first | (with_reducible first | exact HB.out | apply below_alloc | apply pw_below_drewN | apply below_drew1) | exact HB.out)) hb); clear HO_1; clear HB; have HO_1 := n0_; have HO324 := n1_; have HB := n2_; clear n0_ n1_ n2_; (try clear hb); (try clear hb2); (try clear hk); (try clear hi); (try clear ho0); obtain ⟨Ao24, co24, eo24⟩ := Kd.R_slice HO324.out; subst eo24))
       go_loopg [1, 41] k1 (fun kq v1 v41 w' => ∃ (x1_2 : List (S28)) (x41_2 : Int), v41 = .int .i64 x41_2 ∧ Aside0 (transposallaw09_EntryChecks.l1 kq a0 x1_2 a4 t322 (t322.length : Int) x41_2 = some r) ∧ Aside0 (kq ≤ k1) ∧ Aside0 (Kd.R k28 28 w' w.heap.size (fun k_ => some k_ ≠ ((.slice Ao24 t322.length co24) : Value).ownBlock) v1 x1_2) ∧ Aside0 (Kd.R k28 28 w' w.heap.size (fun k_ => some k_ ≠ (v1 : Value).ownBlock) (.slice Ao24 t322.length co24) t322) ∧ Aside0 (Below w.heap.size w w'))
       case atStart => exact ⟨(x1_1), (0), (by first | rfl | (simp; done) | (simp [*]; done)), H', ⟨Nat.le_refl _⟩, ⟨by (try simp only [hl1_1]); (with_reducible repeat (first | apply Kd.R_alloc | apply Kd.R_drewN | apply Kd.R_drew)); exact Kd.R_mono HO_1.out (fun _ hk => hk.2)⟩, ⟨by (try simp only [hl1_1]); (with_reducible repeat (first | apply Kd.R_alloc | apply Kd.R_drewN | apply Kd.R_drew)); exact Kd.R_mono HO324.out (fun _ hk => hk.2)⟩, ⟨by repeat (first | (with_reducible first | exact HB.out | apply below_alloc | apply pw_below_drewN | apply below_drew1) | exact HB.out)⟩⟩
       case round =>
        clear H'
        try clear c1
        try clear p1
        try clear q1
        try clear hx1
        try clear c2
        try clear p2
        try clear p3
        try clear q3
        try clear hx3
        try clear c4
        try clear p6
        try clear c7
        try clear c8
        try clear c8b0
        try clear c8b1
        try clear c13
        try clear c14
        try clear c14b0
        try clear c15
        try clear c16
        try clear c16b0
        try clear c17
        try clear c17b0
        try clear c18
        try clear p18
        try clear q18
        try clear hx18
        try clear hf18
        try clear c19
        try clear hx19
        try clear hf19
        try clear c21
        try clear hx18_0
        try clear hx18_1
        try clear hx18_2
        try clear hx18_3
        try clear hx19_1
        try clear hx320_0
        try clear hx320_1
        try clear hx320_2
        try clear hx320_3
        try clear p18
        try clear p2
        try clear p320
        try clear q18
        try clear q320
        obtain ⟨x1_2, x41_2, rfl, HA, HK2, HO_1, HO_39, HB⟩ := hrel
        cases gk with
        | zero => exact absurd HA.out (by simp [transposallaw09_EntryChecks.l1])
        | succ k2 =>
         have H := HA.out
         clear HA
         simp only [transposallaw09_EntryChecks.l1] at H
         by_cases c25 : x41_2 < (t322.length : Int)
         ·rw [if_pos c25] at H
          have c25b0 : decide (x41_2 < (t322.length : Int)) = true := decide_eq_true c25
          have c25b5 := c25b0
          (try rw [hl1_1] at c25b5)
          clear c25
          by_cases c26 : 0 ≤ x41_2
          ·rw [if_pos c26] at H
           have c26b0 : decide (0 ≤ x41_2) = true := decide_eq_true c26
           clear c26
           by_cases c27 : x41_2 < (t322.length : Int)
           ·rw [if_pos c27] at H
            have c27b0 : decide (x41_2 < (t322.length : Int)) = true := decide_eq_true c27
            have c27b5 := c27b0
            (try rw [hl1_1] at c27b5)
            clear c27
            by_cases c28 : x1_2.length < 8796093022208
            ·rw [if_pos c28] at H
             have LMc28 := Aside0.mk c28
             clear c28
             obtain ⟨y327, hy327⟩ : ∃ y_ : List (S28), y_ = (x1_2 ++ [(⟨(rd_T28 t322 x41_2).f0, (rd_T28 t322 x41_2).f1, (rd_T28 t322 x41_2).f2, wrap64 (-((rd_T28 t322 x41_2).f3))⟩ : S28)]) := ⟨_, rfl⟩
             replace H : (transposallaw09_EntryChecks.l1 k2 a0 y327 a4 t322 (t322.length : Int) (wrap64 (x41_2 + 1))) = some r := by first | (rw [hy327]; with_reducible exact H) | (have H2_ := (Option.bind_some _ _).symm.trans H; rw [hy327]; with_reducible exact H2_) | (have H2_ := (Option.bind_some _ _).symm.trans H; with_reducible exact H2_) | with_reducible exact H | (rw [hy327]; exact H) | exact H
             have Ny327 := Aside0.mk hy327
             clear hy327
             have H' := Aside0.mk H
             clear H
             have p325 : 0 ≤ (x41_2 : Int) := of_decide_eq_true (by first | (with_reducible assumption) | assumption)
             have q325 : x41_2 < (t322.length : Int) := of_decide_eq_true (by first | (with_reducible assumption) | assumption)
             obtain ⟨ad325, e325, hx325_0, hx325_1, hx325_2, hx325_3⟩ := at_T28 (Kd.R_reads' HO_39.out).2.2 x41_2 p325 q325
             cases e325
             replace p325 := eq_true p325
             replace q325 := eq_true q325
             go_wp2_with (first | ((with_reducible refine gate_dst (N := 13) rfl ?_); refine box_event ?hg (N := 13) ?hd (cs := #[.int .u32 0, .int .u16 0, .int .u16 0, .int .i64 0]) (t := 28) ?hr ?_; (case hd => rfl); (case hg => rfl); (case hr => first | (go_simp; done) | (go_simp; rfl)); intro gb326 hg w29 hbox hb; have n0_ := Aside0.mk (Kd.R_below (Kd.R_elderB (by (with_reducible repeat (first | apply Kd.R_alloc | apply Kd.R_drewN | apply Kd.R_drew)); exact HO_1.out) gb326 (Nat.le_of_eq hg.symm)) hb); have n1_ := Aside0.mk (Kd.R_below (Kd.R_elderB (by (with_reducible repeat (first | apply Kd.R_alloc | apply Kd.R_drewN | apply Kd.R_drew)); exact HO_39.out) gb326 (Nat.le_of_eq hg.symm)) hb); have n2_ := Aside0.mk (below_step (by repeat (first | (with_reducible first | exact HB.out | apply below_alloc | apply pw_below_drewN | apply below_drew1) | exact HB.out)) hb); have n3_ := Aside0.mk (hbox); have n4_ := Aside0.mk ((by rw [hg]; exact (below_size (by repeat (first | (with_reducible first | exact HB.out | apply below_alloc | apply pw_below_drewN | apply below_drew1) | exact HB.out))) : w.heap.size ≤ gb326)); have n5_ := Aside0.mk ((by rw [hg]; exact (below_size (by repeat (first | (with_reducible first | exact HB.out | apply below_alloc | apply pw_below_drewN | apply below_drew1) | exact HB.out))) : w.heap.size ≤ gb326)); clear HO_1; clear HO_39; clear HB; have HO_1 := n0_; have HO_39 := n1_; have HB := n2_; have BK326 := n3_; have GW326 := n4_; have GE326 := n5_; clear n0_ n1_ n2_ n3_ n4_ n5_; clear hb hbox hg; have hcz30_0 : w29.cell? ⟨gb326, 0, none⟩ = some (.int .u32 0) := (blk_cell BK326.out 0).trans rfl; have hcz30_1 : w29.cell? ⟨gb326, 1, none⟩ = some (.int .u16 0) := (blk_cell BK326.out 1).trans rfl; have hcz30_2 : w29.cell? ⟨gb326, 2, none⟩ = some (.int .u16 0) := (blk_cell BK326.out 2).trans rfl; have hcz30_3 : w29.cell? ⟨gb326, 3, none⟩ = some (.int .i64 0) := (blk_cell BK326.out 3).trans rfl; have hfz30_0 := blk_frozen BK326.out 0; have hfz30_1 := blk_frozen BK326.out 1; have hfz30_2 := blk_frozen BK326.out 2; have hfz30_3 := blk_frozen BK326.out 3) | ((with_reducible refine gate_builtin (b := .append) (xs := #[.tmp 49, .tmp 51]) rfl ?_); at_builtin; refine Kd.R_append k28 (w0 := w) w.heap.size rfl (.tmp 49) (.tmp 51) 22 28 (.agg #[(.int .u32 0), (.int .u16 0), (.int .u16 0), (.int .i64 0)]) 16 rfl Tryz.underlying22 info28 rfl (by decide) (by omega) u1 x1_2 (⟨(rd_T28 t322 x41_2).f0, (rd_T28 t322 x41_2).f1, (rd_T28 t322 x41_2).f2, wrap64 (-((rd_T28 t322 x41_2).f3))⟩ : S28) [.int .u32 ((rd_T28 t322 x41_2).f0), .int .u16 ((rd_T28 t322 x41_2).f1), .int .u16 ((rd_T28 t322 x41_2).f2), .int .i64 (wrap64 (-((rd_T28 t322 x41_2).f3)))] (fun k_ => some k_ ≠ (.slice (some ad325) t322.length co24 : Value).ownBlock ∧ k_ ≠ gb326) (fun _ => False) rfl (by first | (go_simp; done) | (go_simp; rfl)) ?aP (fun _ hk => hk.elim) ?aF ?aO ?aB ?aS ?aL ?_; (case aP => exact k28_mkM _ _ _ (⟨(rd_T28 t322 x41_2).f0, (rd_T28 t322 x41_2).f1, (rd_T28 t322 x41_2).f2, wrap64 (-((rd_T28 t322 x41_2).f3))⟩ : S28)); (case aB => exact (by repeat (first | (with_reducible first | exact HB.out | apply below_alloc | apply pw_below_drewN | apply below_drew1 | refine below_set ?_ GE326.out) | exact HB.out))); (case aF => exact (fun k_ hk => ⟨Kd.fresh' (Kd.R_lt (by (with_reducible repeat (first | apply Kd.R_alloc | apply Kd.R_drewN | apply Kd.R_drew)); exact (Kd.R_mono (Kd.R_far (p := ⟨gb326, 3, none⟩) (Kd.R_far (p := ⟨gb326, 3, none⟩) (Kd.R_far (p := ⟨gb326, 2, none⟩) (Kd.R_far (p := ⟨gb326, 1, none⟩) (Kd.R_far (p := ⟨gb326, 0, none⟩) (Kd.R_mono HO_39.out (fun k_ hk => (⟨hk, hk.2⟩ : _ ∧ k_ ≠ gb326))) (fun _ hk => hk.2) (.int .u32 ((rd_T28 t322 x41_2).f0))) (fun _ hk => hk.2) (.int .u16 ((rd_T28 t322 x41_2).f1))) (fun _ hk => hk.2) (.int .u16 ((rd_T28 t322 x41_2).f2))) (fun _ hk => hk.2) (.int .i64 ((rd_T28 t322 x41_2).f3))) (fun _ hk => hk.2) (.int .i64 (wrap64 (-((rd_T28 t322 x41_2).f3))))) (fun _ h_ => h_.1)))) k_ hk, Kd.freshB (g := gb326) (o := .cells #[.int .u32 ((rd_T28 t322 x41_2).f0), .int .u16 ((rd_T28 t322 x41_2).f1), .int .u16 ((rd_T28 t322 x41_2).f2), .int .i64 (wrap64 (-((rd_T28 t322 x41_2).f3)))] 28 (0, 0)) (by (with_reducible repeat (first | refine blk_drewN ?_ _ | refine blk_drew ?_ | refine blk_alloc ?_ _)); refine blk_put (cs := #[.int .u32 ((rd_T28 t322 x41_2).f0), .int .u16 ((rd_T28 t322 x41_2).f1), .int .u16 ((rd_T28 t322 x41_2).f2), .int .i64 ((rd_T28 t322 x41_2).f3)]) ?_ 3 _ rfl; (with_reducible repeat (first | refine blk_drewN ?_ _ | refine blk_drew ?_ | refine blk_alloc ?_ _)); refine blk_put (cs := #[.int .u32 ((rd_T28 t322 x41_2).f0), .int .u16 ((rd_T28 t322 x41_2).f1), .int .u16 ((rd_T28 t322 x41_2).f2), .int .i64 0]) ?_ 3 _ rfl; (with_reducible repeat (first | refine blk_drewN ?_ _ | refine blk_drew ?_ | refine blk_alloc ?_ _)); refine blk_put (cs := #[.int .u32 ((rd_T28 t322 x41_2).f0), .int .u16 ((rd_T28 t322 x41_2).f1), .int .u16 0, .int .i64 0]) ?_ 2 _ rfl; (with_reducible repeat (first | refine blk_drewN ?_ _ | refine blk_drew ?_ | refine blk_alloc ?_ _)); refine blk_put (cs := #[.int .u32 ((rd_T28 t322 x41_2).f0), .int .u16 0, .int .u16 0, .int .i64 0]) ?_ 1 _ rfl; (with_reducible repeat (first | refine blk_drewN ?_ _ | refine blk_drew ?_ | refine blk_alloc ?_ _)); refine blk_put (cs := #[.int .u32 0, .int .u16 0, .int .u16 0, .int .i64 0]) ?_ 0 _ rfl; (with_reducible repeat (first | refine blk_drewN ?_ _ | refine blk_drew ?_ | refine blk_alloc ?_ _)); exact BK326.out) k_ hk⟩)); (case aO => exact (by (with_reducible repeat (first | apply Kd.R_alloc | apply Kd.R_drewN | apply Kd.R_drew)); exact Kd.R_mono (Kd.R_far (p := ⟨gb326, 3, none⟩) (Kd.R_far (p := ⟨gb326, 3, none⟩) (Kd.R_far (p := ⟨gb326, 2, none⟩) (Kd.R_far (p := ⟨gb326, 1, none⟩) (Kd.R_far (p := ⟨gb326, 0, none⟩) (Kd.R_mono HO_1.out (fun k_ hk => (⟨hk, hk.2⟩ : _ ∧ k_ ≠ gb326))) (fun _ hk => hk.2) (.int .u32 ((rd_T28 t322 x41_2).f0))) (fun _ hk => hk.2) (.int .u16 ((rd_T28 t322 x41_2).f1))) (fun _ hk => hk.2) (.int .u16 ((rd_T28 t322 x41_2).f2))) (fun _ hk => hk.2) (.int .i64 ((rd_T28 t322 x41_2).f3))) (fun _ hk => hk.2) (.int .i64 (wrap64 (-((rd_T28 t322 x41_2).f3))))) (fun _ hk => ⟨hk.1.1, hk.1.2⟩))); (case aS => exact (below_size (by repeat (first | (with_reducible first | exact HB.out | apply below_alloc | apply pw_below_drewN | apply below_drew1 | refine below_set ?_ GE326.out) | exact HB.out)))); (case aL => have := LMc28.out; omega); intro v328 w31 ho hb hg hat; rw [← Ny327.out] at ho; have n0_ := Aside0.mk (Kd.R_after (ok := (fun k_ => k_ ≠ gb326)) (by (with_reducible repeat (first | apply Kd.R_alloc | apply Kd.R_drewN | apply Kd.R_drew)); exact Kd.R_mono (Kd.R_far (p := ⟨gb326, 3, none⟩) (Kd.R_far (p := ⟨gb326, 3, none⟩) (Kd.R_far (p := ⟨gb326, 2, none⟩) (Kd.R_far (p := ⟨gb326, 1, none⟩) (Kd.R_far (p := ⟨gb326, 0, none⟩) (Kd.R_mono HO_39.out (fun k_ hk => (⟨hk, hk.2⟩ : _ ∧ k_ ≠ gb326))) (fun _ hk => hk.2) (.int .u32 ((rd_T28 t322 x41_2).f0))) (fun _ hk => hk.2) (.int .u16 ((rd_T28 t322 x41_2).f1))) (fun _ hk => hk.2) (.int .u16 ((rd_T28 t322 x41_2).f2))) (fun _ hk => hk.2) (.int .i64 ((rd_T28 t322 x41_2).f3))) (fun _ hk => hk.2) (.int .i64 (wrap64 (-((rd_T28 t322 x41_2).f3))))) (fun _ hk => ⟨hk.1.2, hk.1.1⟩)) hg hat); have n1_ := Aside0.mk (blk_grown (g := gb326) (o := .cells #[.int .u32 ((rd_T28 t322 x41_2).f0), .int .u16 ((rd_T28 t322 x41_2).f1), .int .u16 ((rd_T28 t322 x41_2).f2), .int .i64 (wrap64 (-((rd_T28 t322 x41_2).f3)))] 28 (0, 0)) (by (with_reducible repeat (first | refine blk_drewN ?_ _ | refine blk_drew ?_ | refine blk_alloc ?_ _)); refine blk_put (cs := #[.int .u32 ((rd_T28 t322 x41_2).f0), .int .u16 ((rd_T28 t322 x41_2).f1), .int .u16 ((rd_T28 t322 x41_2).f2), .int .i64 ((rd_T28 t322 x41_2).f3)]) ?_ 3 _ rfl; (with_reducible repeat (first | refine blk_drewN ?_ _ | refine blk_drew ?_ | refine blk_alloc ?_ _)); refine blk_put (cs := #[.int .u32 ((rd_T28 t322 x41_2).f0), .int .u16 ((rd_T28 t322 x41_2).f1), .int .u16 ((rd_T28 t322 x41_2).f2), .int .i64 0]) ?_ 3 _ rfl; (with_reducible repeat (first | refine blk_drewN ?_ _ | refine blk_drew ?_ | refine blk_alloc ?_ _)); refine blk_put (cs := #[.int .u32 ((rd_T28 t322 x41_2).f0), .int .u16 ((rd_T28 t322 x41_2).f1), .int .u16 0, .int .i64 0]) ?_ 2 _ rfl; (with_reducible repeat (first | refine blk_drewN ?_ _ | refine blk_drew ?_ | refine blk_alloc ?_ _)); refine blk_put (cs := #[.int .u32 ((rd_T28 t322 x41_2).f0), .int .u16 0, .int .u16 0, .int .i64 0]) ?_ 1 _ rfl; (with_reducible repeat (first | refine blk_drewN ?_ _ | refine blk_drew ?_ | refine blk_alloc ?_ _)); refine blk_put (cs := #[.int .u32 0, .int .u16 0, .int .u16 0, .int .i64 0]) ?_ 0 _ rfl; (with_reducible repeat (first | refine blk_drewN ?_ _ | refine blk_drew ?_ | refine blk_alloc ?_ _)); exact BK326.out) hg (Kd.R_away HO_1.out (fun _ hk => hk.2))); have n2_ := Aside0.mk (hb); have n3_ := Aside0.mk (ho); clear HO_39; clear BK326; clear HB; clear HO_1; have HO_39 := n0_; have BK326 := n1_; have HB := n2_; have HO329 := n3_; clear n0_ n1_ n2_ n3_; clear ho hb hg hat))
             go_roundg k2
             case measure => have := HK1.out; have := HK2.out; omega
             case rel => exact ⟨(y327), (wrap64 (x41_2 + 1)), (by first | rfl | (simp; done) | (simp [*]; done)), H', ⟨by have := HK1.out; have := HK2.out; omega⟩, ⟨by (try simp only [hl1_1]); (with_reducible repeat (first | apply Kd.R_alloc | apply Kd.R_drewN | apply Kd.R_drew)); exact Kd.R_mono HO329.out (fun _ hk => hk.1)⟩, ⟨by (try simp only [hl1_1]); (with_reducible repeat (first | apply Kd.R_alloc | apply Kd.R_drewN | apply Kd.R_drew)); exact Kd.R_mono HO_39.out (fun _ hk => hk.2)⟩, ⟨by repeat (first | (with_reducible first | exact HB.out | apply below_alloc | apply pw_below_drewN | apply below_drew1 | refine below_set ?_ GE326.out) | exact HB.out)⟩⟩
            ·rw [if_neg c28] at H
             exact absurd H (by simp)
           ·rw [if_neg c27] at H
            exact absurd H (by simp)
          ·rw [if_neg c26] at H
           exact absurd H (by simp)
         ·rw [if_neg c25] at H
          have c25b0 : decide (x41_2 < (t322.length : Int)) = false := decide_eq_false c25
          have c25b5 := c25b0
          (try rw [hl1_1] at c25b5)
          clear c25
          have HC32 := Aside0.mk H
          clear H
          go_upto_region 19 with (fail)
          go_cut [61] (fun v61 wc => ∃ (kq : Nat) (x61_31 : Bool), v61 = .bool x61_31 ∧ Aside0 (transposallaw09_EntryChecks.j2 kq a0 x1_2 a4 x61_31 = some r) ∧ Aside0 (kq ≤ k2) ∧ Aside0 (Kd.R k28 28 wc w.heap.size (fun _ => True) u1 x1_2) ∧ Aside0 (Below w.heap.size w wc))
          case first =>
           have H := HC32.out
           clear HC32
           by_cases c33 : (x1_2.length : Int) > 0
           ·rw [if_pos c33] at H
            have c33b0 : decide (0 < (x1_2.length : Int)) = true := decide_eq_true c33
            have c33b1 : decide (0 < x1_2.length) = true := decide_eq_true (by omega)
            clear c33
            (first | rw [c33b0] | (simp only [i64_w, i32_w]; rw [c33b0]) | skip)
            have H' := Aside0.mk H
            clear H
            obtain ⟨Ao34, co34, eo34⟩ := Kd.R_slice HO_1.out
            subst eo34
            go_wp2
            go_meet
            case rel => exact ⟨_, (((Int.tmod a4 4) == 0)), (by first | rfl | (simp; done) | (simp [*]; done)), H', ⟨by have := HK1.out; have := HK2.out; first | omega | exact Nat.le_refl _⟩, ⟨by (try simp only [hl1_1]); (with_reducible repeat (first | apply Kd.R_alloc | apply Kd.R_drewN | apply Kd.R_drew)); exact Kd.R_mono HO_1.out (fun _ hk => trivial)⟩, ⟨by repeat (first | (with_reducible first | exact HB.out | apply below_alloc | apply pw_below_drewN | apply below_drew1) | exact HB.out)⟩⟩
           ·rw [if_neg c33] at H
            have c33b0 : decide (0 < (x1_2.length : Int)) = false := decide_eq_false c33
            have c33b1 : decide (0 < x1_2.length) = false := decide_eq_false (by omega)
            clear c33
            (first | rw [c33b0] | (simp only [i64_w, i32_w]; rw [c33b0]) | skip)
            have H' := Aside0.mk H
            clear H
            obtain ⟨Ao35, co35, eo35⟩ := Kd.R_slice HO_1.out
            subst eo35
            go_wp2
            go_meet
            case rel => exact ⟨_, (false), (by first | rfl | (simp; done) | (simp [*]; done)), H', ⟨by have := HK1.out; have := HK2.out; first | omega | exact Nat.le_refl _⟩, ⟨by (try simp only [hl1_1]); (with_reducible repeat (first | apply Kd.R_alloc | apply Kd.R_drewN | apply Kd.R_drew)); exact Kd.R_mono HO_1.out (fun _ hk => trivial)⟩, ⟨by repeat (first | (with_reducible first | exact HB.out | apply below_alloc | apply pw_below_drewN | apply below_drew1) | exact HB.out)⟩⟩
          case rest =>
           clear HC32
           try clear c1
           try clear p1
           try clear q1
           try clear hx1
           try clear c2
           try clear p2
           try clear c3
           try clear p3
           try clear q3
           try clear hx3
           try clear c4
           try clear p6
           try clear c7
           try clear c8
           try clear c8b0
           try clear c8b1
           try clear c13
           try clear c14
           try clear c14b0
           try clear c15
           try clear c16
           try clear c16b0
           try clear c17
           try clear c17b0
           try clear c18
           try clear p18
           try clear q18
           try clear hx18
           try clear hf18
           try clear c19
           try clear hx19
           try clear hf19
           try clear c21
           try clear c25
           try clear c25b0
           try clear c26
           try clear c26b0
           try clear c27
           try clear c27b0
           try clear c28
           try clear p32
           try clear q32
           try clear hx32
           try clear c33
           try clear c33b0
           try clear c33b1
           try clear hcz30_0
           try clear hcz30_1
           try clear hcz30_2
           try clear hcz30_3
           try clear hfz30_0
           try clear hfz30_1
           try clear hfz30_2
           try clear hfz30_3
           try clear hx18_0
           try clear hx18_1
           try clear hx18_2
           try clear hx18_3
           try clear hx19_1
           try clear hx320_0
           try clear hx320_1
           try clear hx320_2
           try clear hx320_3
           try clear hx325_0
           try clear hx325_1
           try clear hx325_2
           try clear hx325_3
           try clear p1
           try clear p18
           try clear p2
           try clear p3
           try clear p320
           try clear p325
           try clear p6
           try clear q1
           try clear q18
           try clear q3
           try clear q320
           try clear q325
           obtain ⟨kq, x61_31, rfl, HA, HJ31, HO_1, HB⟩ := hcut
           cases kq with
           | zero => exact absurd HA.out (by simp [transposallaw09_EntryChecks.j2])
           | succ kj31 =>
            have H := HA.out
            clear HA
            simp only [transposallaw09_EntryChecks.j2] at H
            by_cases c36 : x61_31 = true
            ·subst c36
             have H1 : (if 0 < (x1_2.length : Int) then ((some (x1_2.set (0 : Int).toNat (⟨(rd_T28 x1_2 0).f0, (rd_T28 x1_2 0).f1, (rd_T28 x1_2 0).f2, wrap64 (((rd_T28 x1_2 0).f3) + a4)⟩ : S28) : List (S28))).bind fun y331 => ((entry_Journal_Check.f kj31 (Int.tmod a0 100000) y331).bind fun t333 => ((transposallaw09_Check.f kj31 (Int.tmod a0 100000) y331).bind fun t334 => (some (t333 == t334))))) else (none)) = some r := by rw [if_pos rfl] at H; exact H
             clear H
             have H := H1
             clear H1
             by_cases c37 : 0 < (x1_2.length : Int)
             ·rw [if_pos c37] at H
              have c37b0 : decide (0 < (x1_2.length : Int)) = true := decide_eq_true c37
              have c37b1 : decide (0 < x1_2.length) = true := decide_eq_true (by omega)
              clear c37
              obtain ⟨y331, hy331⟩ : ∃ y_ : List (S28), y_ = (x1_2.set (0 : Int).toNat (⟨(rd_T28 x1_2 0).f0, (rd_T28 x1_2 0).f1, (rd_T28 x1_2 0).f2, wrap64 (((rd_T28 x1_2 0).f3) + a4)⟩ : S28)) := ⟨_, rfl⟩
              replace H : ((entry_Journal_Check.f kj31 (Int.tmod a0 100000) y331).bind fun t333 => ((transposallaw09_Check.f kj31 (Int.tmod a0 100000) y331).bind fun t334 => (some (t333 == t334)))) = some r := by first | (rw [hy331]; with_reducible exact H) | (have H2_ := (Option.bind_some _ _).symm.trans H; rw [hy331]; with_reducible exact H2_) | (have H2_ := (Option.bind_some _ _).symm.trans H; with_reducible exact H2_) | with_reducible exact H | (rw [hy331]; exact H) | exact H
              have Ny331 := Aside0.mk hy331
              clear hy331
              replace H := Option.bind_eq_some_iff.mp H
              obtain ⟨t333, A390, H⟩ := H
              replace H : ((transposallaw09_Check.f kj31 (Int.tmod a0 100000) y331).bind fun t334 => (some (t333 == t334))) = some r := H
              have A39 := Aside0.mk A390
              clear A390
              replace H := Option.bind_eq_some_iff.mp H
              obtain ⟨t334, A400, H⟩ := H
              replace H : (some (t333 == t334)) = some r := H
              have A40 := Aside0.mk A400
              clear A400
              obtain rfl := Option.some.inj H
              obtain ⟨Ao41, co41, eo41⟩ := Kd.R_slice HO_1.out
              subst eo41
              have p330 : 0 ≤ (0 : Int) := (by omega)
              have q330 : 0 < (x1_2.length : Int) := of_decide_eq_true (by first | (with_reducible assumption) | assumption)
              obtain ⟨ad330, e330, hx330_0, hx330_1, hx330_2, hx330_3⟩ := at_T28 (Kd.R_reads' HO_1.out).2.2 0 p330 q330
              cases e330
              have qi330 : (0 < x1_2.length) = True := eq_true (by omega)
              (try rw [show ((0 : Int)).toNat = 0 from rfl] at hx330_0)
              (try rw [show 0 * 4 = 0 from rfl] at hx330_0)
              (try rw [Addr.add_zero'] at hx330_0)
              (try rw [show ((0 : Int)).toNat = 0 from rfl] at hx330_1)
              (try rw [show 0 * 4 = 0 from rfl] at hx330_1)
              (try rw [Addr.add_zero'] at hx330_1)
              (try rw [show ((0 : Int)).toNat = 0 from rfl] at hx330_2)
              (try rw [show 0 * 4 = 0 from rfl] at hx330_2)
              (try rw [Addr.add_zero'] at hx330_2)
              (try rw [show ((0 : Int)).toNat = 0 from rfl] at hx330_3)
              (try rw [show 0 * 4 = 0 from rfl] at hx330_3)
              (try rw [Addr.add_zero'] at hx330_3)
              replace p330 := eq_true p330
              replace q330 := eq_true q330
              have p38 : 0 ≤ (0 : Int) := (by omega)
              have q38 : (0 : Int) < ((x1_2.length : Int) : Int) := of_decide_eq_true (by first | (with_reducible assumption) | assumption)
              have qi38 : (0 < x1_2.length) = True := eq_true (by omega)
              obtain ⟨go38, co38, eo38, gb38, gl38, cl38, HG38⟩ := Kd.R_form HO_1.out (by omega)
              (first | cases eo38 | (injection eo38 with ea_ en_ ec_; (first | subst ea_ | (injection ea_ with ea_; subst ea_)); subst ec_; clear en_))
              have GB38 := Aside0.mk gb38
              have GG38 := Aside0.mk HG38
              clear gb38 gl38 HG38
              (first | simp only [add_plain] at hx330_0 | skip)
              (first | simp only [add_plain] at hx330_1 | skip)
              (first | simp only [add_plain] at hx330_2 | skip)
              (first | simp only [add_plain] at hx330_3 | skip)
              obtain ⟨ce38, hcl38, hM38, hcc38, hfr38⟩ := Kd.R_elem HO_1.out z28 (0 : Int) p38 q38
              obtain rfl := k28_openM hM38
              have hx38_0 : wc.cell? ⟨go38, (0 : Int).toNat * 4, none⟩ = some (.int .u32 ((rd_T28 x1_2 0).f0)) := hcc38 0 _ rfl
              have hx38_1 : wc.cell? ⟨go38, (0 : Int).toNat * 4 + 1, none⟩ = some (.int .u16 ((rd_T28 x1_2 0).f1)) := hcc38 1 _ rfl
              have hx38_2 : wc.cell? ⟨go38, (0 : Int).toNat * 4 + 2, none⟩ = some (.int .u16 ((rd_T28 x1_2 0).f2)) := hcc38 2 _ rfl
              have hx38_3 : wc.cell? ⟨go38, (0 : Int).toNat * 4 + 3, none⟩ = some (.int .i64 ((rd_T28 x1_2 0).f3)) := hcc38 3 _ rfl
              have hf38_0 : wc.frozen? ⟨go38, (0 : Int).toNat * 4, none⟩ = false := hfr38 0
              have hf38_1 : wc.frozen? ⟨go38, (0 : Int).toNat * 4 + 1, none⟩ = false := hfr38 1
              have hf38_2 : wc.frozen? ⟨go38, (0 : Int).toNat * 4 + 2, none⟩ = false := hfr38 2
              have hf38_3 : wc.frozen? ⟨go38, (0 : Int).toNat * 4 + 3, none⟩ = false := hfr38 3
              clear hcl38 hcc38 hfr38 hM38
              (try rw [show ((0 : Int)).toNat = 0 from rfl] at hx38_0)
              (try simp only [Nat.reduceMul, Nat.zero_mul, Nat.zero_add, Nat.reduceAdd] at hx38_0)
              (try rw [show ((0 : Int)).toNat = 0 from rfl] at hf38_0)
              (try simp only [Nat.reduceMul, Nat.zero_mul, Nat.zero_add, Nat.reduceAdd] at hf38_0)
              (try rw [show ((0 : Int)).toNat = 0 from rfl] at hx38_1)
              (try simp only [Nat.reduceMul, Nat.zero_mul, Nat.zero_add, Nat.reduceAdd] at hx38_1)
              (try rw [show ((0 : Int)).toNat = 0 from rfl] at hf38_1)
              (try simp only [Nat.reduceMul, Nat.zero_mul, Nat.zero_add, Nat.reduceAdd] at hf38_1)
              (try rw [show ((0 : Int)).toNat = 0 from rfl] at hx38_2)
              (try simp only [Nat.reduceMul, Nat.zero_mul, Nat.zero_add, Nat.reduceAdd] at hx38_2)
              (try rw [show ((0 : Int)).toNat = 0 from rfl] at hf38_2)
              (try simp only [Nat.reduceMul, Nat.zero_mul, Nat.zero_add, Nat.reduceAdd] at hf38_2)
              (try rw [show ((0 : Int)).toNat = 0 from rfl] at hx38_3)
              (try simp only [Nat.reduceMul, Nat.zero_mul, Nat.zero_add, Nat.reduceAdd] at hx38_3)
              (try rw [show ((0 : Int)).toNat = 0 from rfl] at hf38_3)
              (try simp only [Nat.reduceMul, Nat.zero_mul, Nat.zero_add, Nat.reduceAdd] at hf38_3)
              replace p38 := eq_true p38
              replace q38 := eq_true q38
              have HX42 := Aside0.mk (show Kd.R k28 28 wc w.heap.size (fun _ => True) (.slice (some ⟨go38, 0, none⟩) x1_2.length co41) x1_2 from (by (with_reducible repeat (first | apply Kd.R_alloc | apply Kd.R_drewN | apply Kd.R_drew)); exact HO_1.out))
              obtain ⟨ce42, hcl42, hM42, hcc42, hfr42⟩ := Kd.R_elem HX42.out z28 (0 : Int) (by omega) (by have h_ : (0 : Int) < ((x1_2.length : Int) : Int) := of_decide_eq_true (by first | (with_reducible assumption) | assumption); first | exact h_ | (have e_ := (Kd.R_reads' HO_1.out).1; omega) | simpa using h_)
              obtain rfl := k28_openM hM42
              have HP42 := Kd.R_seg HX42.out (0 : Int) (by omega) (by have h_ : (0 : Int) < ((x1_2.length : Int) : Int) := of_decide_eq_true (by first | (with_reducible assumption) | assumption); first | exact h_ | (have e_ := (Kd.R_reads' HO_1.out).1; omega) | simpa using h_) (seg := [.int .i64 (wrap64 (((rd_T28 x1_2 0).f3) + a4))]) (j := 3) hcl42 hcc42 (show 4 ≤ 4 from by decide) (x' := (⟨(rd_T28 x1_2 0).f0, (rd_T28 x1_2 0).f1, (rd_T28 x1_2 0).f2, wrap64 (((rd_T28 x1_2 0).f3) + a4)⟩ : S28)) (k28_mkM _ _ _ (⟨(rd_T28 x1_2 0).f0, (rd_T28 x1_2 0).f1, (rd_T28 x1_2 0).f2, wrap64 (((rd_T28 x1_2 0).f3) + a4)⟩ : S28) ) (fun _ hk => hk)
              have hx42_3 := hcc42 3 _ rfl
              (try simp only [show (k28).sz = 4 from rfl, Nat.mul_one, Nat.add_zero] at hx42_3)
              (try rw [show ((0 : Int)).toNat = 0 from rfl] at hx42_3)
              (try simp only [Nat.reduceMul, Nat.zero_mul, Nat.zero_add, Nat.reduceAdd] at hx42_3)
              have hf42_3 := hfr42 3
              (try simp only [show (k28).sz = 4 from rfl, Nat.mul_one, Nat.add_zero] at hf42_3)
              (try rw [show ((0 : Int)).toNat = 0 from rfl] at hf42_3)
              (try simp only [Nat.reduceMul, Nat.zero_mul, Nat.zero_add, Nat.reduceAdd] at hf42_3)
              clear hcl42 hcc42 hfr42 hM42
              try go_wp2_with (first | ((with_reducible refine gate_store (t := 2) (p := 69) rfl ?_); refine store_event (t := 2) (p := 69) (v := ?vo_w43) (w1 := (wc.setCell ⟨go38, 3, none⟩ (.int .i64 (wrap64 (((rd_T28 x1_2 0).f3) + a4))))) ?hg ?ho ?hn ?hr ?_; (case ho => rfl); (case hg => rfl); (case hn => rfl); (case hr => first | (go_simp; done) | (go_simp; rfl)); intro w43 hw; have hg : wc.grownBy w43 (some go38) := (by rw [hw]; exact HP42.2); have hp_ : Kd.R k28 28 w43 w.heap.size (fun _ => True) (.slice (some ⟨go38, 0, none⟩) x1_2.length co41) y331 := (by rw [hw, Ny331.out]; exact HP42.1); clear HP42; have n0_ := Aside0.mk (hp_); have n1_ := Aside0.mk ((by rw [hw]; exact below_set (HB.out) GB38.out : Below w.heap.size w w43)); clear HO_1; clear HB; have HO_1 := n0_; have HB := n1_; clear n0_ n1_; clear hg hw hp_) | ((with_reducible refine gate_dst (N := 14) rfl ?_); refine box_event ?hg (N := 14) ?hd (cs := #[.int .i32 0, .slice none 0 0]) (t := 32) ?hr ?_; (case hd => rfl); (case hg => rfl); (case hr => first | (go_simp; done) | (go_simp; rfl)); intro gb332 hg w44 hbox hb; have n0_ := Aside0.mk (Kd.R_below (by (with_reducible repeat (first | apply Kd.R_alloc | apply Kd.R_drewN | apply Kd.R_drew)); exact HO_1.out) hb); have n1_ := Aside0.mk (below_step (by repeat (first | (with_reducible first | exact HB.out | apply below_alloc | apply pw_below_drewN | apply below_drew1) | exact HB.out)) hb); have n2_ := Aside0.mk (hbox); have n3_ := Aside0.mk ((by rw [hg]; exact (below_size (by repeat (first | (with_reducible first | exact HB.out | apply below_alloc | apply pw_below_drewN | apply below_drew1) | exact HB.out))) : w.heap.size ≤ gb332)); have n4_ := Aside0.mk ((by rw [hg]; exact (below_size (by repeat (first | (with_reducible first | exact HB.out | apply below_alloc | apply pw_below_drewN | apply below_drew1) | exact HB.out))) : w.heap.size ≤ gb332)); clear HO_1; clear HB; have HO_1 := n0_; have HB := n1_; have BK332 := n2_; have GW332 := n3_; have GE332 := n4_; clear n0_ n1_ n2_ n3_ n4_; clear hb hbox hg; have hcz45_0 : w44.cell? ⟨gb332, 0, none⟩ = some (.int .i32 0) := (blk_cell BK332.out 0).trans rfl; have hcz45_1 : w44.cell? ⟨gb332, 1, none⟩ = some (.slice none 0 0) := (blk_cell BK332.out 1).trans rfl; have hfz45_0 := blk_frozen BK332.out 0; have hfz45_1 := blk_frozen BK332.out 1))
              have n0_ : Aside0 (Kd.R k28 28 ((w44.setCell ⟨gb332, 0, none⟩ (.int .i32 (Int.tmod a0 100000))).setCell ⟨gb332, 1, none⟩ (.slice (some ⟨go38, 0, none⟩) x1_2.length co41)) w.heap.size (fun _ => True) (.slice (some ⟨go38, 0, none⟩) x1_2.length co41) y331) := ⟨by (with_reducible repeat (first | apply Kd.R_alloc | apply Kd.R_drewN | apply Kd.R_drew)); exact Kd.R_mono (Kd.R_far (p := ⟨gb332, 1, none⟩) (Kd.R_far (p := ⟨gb332, 0, none⟩) (Kd.R_types HO_1.out BK332.out (by decide)) (fun _ hk => hk.2) (.int .i32 (Int.tmod a0 100000))) (fun _ hk => hk.2) (.slice (some ⟨go38, 0, none⟩) x1_2.length co41)) (fun _ hk => trivial)⟩
              have n1_ : Aside0 (((w44.setCell ⟨gb332, 0, none⟩ (.int .i32 (Int.tmod a0 100000))).setCell ⟨gb332, 1, none⟩ (.slice (some ⟨go38, 0, none⟩) x1_2.length co41)).heap[gb332]? = some (.cells #[.int .i32 (Int.tmod a0 100000), .slice (some ⟨go38, 0, none⟩) x1_2.length co41] 32 (0, 0))) := ⟨by (with_reducible repeat (first | refine blk_drewN ?_ _ | refine blk_drew ?_ | refine blk_alloc ?_ _)); refine blk_put (cs := #[.int .i32 (Int.tmod a0 100000), .slice none 0 0]) ?_ 1 _ rfl; (with_reducible repeat (first | refine blk_drewN ?_ _ | refine blk_drew ?_ | refine blk_alloc ?_ _)); refine blk_put (cs := #[.int .i32 0, .slice none 0 0]) ?_ 0 _ rfl; (with_reducible repeat (first | refine blk_drewN ?_ _ | refine blk_drew ?_ | refine blk_alloc ?_ _)); exact BK332.out⟩
              have n2_ : Aside0 (Below w.heap.size w ((w44.setCell ⟨gb332, 0, none⟩ (.int .i32 (Int.tmod a0 100000))).setCell ⟨gb332, 1, none⟩ (.slice (some ⟨go38, 0, none⟩) x1_2.length co41))) := ⟨by repeat (first | (with_reducible first | exact HB.out | apply below_alloc | apply pw_below_drewN | apply below_drew1 | refine below_set ?_ GE332.out) | exact HB.out)⟩
              (try clear HO_1)
              (try clear BK332)
              (try clear HB)
              generalize ((w44.setCell ⟨gb332, 0, none⟩ (.int .i32 (Int.tmod a0 100000))).setCell ⟨gb332, 1, none⟩ (.slice (some ⟨go38, 0, none⟩) x1_2.length co41)) = w46 at n0_ n1_ n2_ ⊢
              have HO_1 := n0_
              have BK332 := n1_
              have HB := n2_
              clear n0_ n1_ n2_
              have n0_ := Aside0.mk (Kd.R_drew HO_1.out)
              have n1_ := Aside0.mk (blk_drew BK332.out)
              have n2_ := Aside0.mk (below_drew1 HB.out)
              clear HO_1
              clear BK332
              clear HB
              have HO_1 := n0_
              have BK332 := n1_
              have HB := n2_
              clear n0_ n1_ n2_
              refine start_ (n := 6) (S := fun w' => w'.cell? ⟨gb332, 0, none⟩ = some (.int .i32 (Int.tmod a0 100000)) ∧ w'.cell? ⟨gb332, 1, none⟩ = some (.slice (some ⟨go38, 0, none⟩) x1_2.length co41)) (ds := []) #[false, false, false, false, false, false] (by kernel_rfl) rfl rfl ⟨(blk_cell BK332.out 0).trans rfl, (blk_cell BK332.out 1).trans rfl⟩ (fun hHeld => ?_)
              generalize w46.drew = w47 at HO_1 BK332 HB hHeld ⊢
              refine take_ (i := 0) (N := some 75) (v := ?_) (a' := ?_) #[true, false, false, false, false, false] rfl rfl (by kernel_rfl) (fun _ _ _ h => h) (Or.inl ⟨by rfl, ?_⟩) hHeld ?_ ?_
              rotate_left
              ·rintro w' ⟨s0, s1⟩
               go_simp
               with_reducible rfl
              rotate_left
              ·simp only [Act.put, List.setIfInBounds_toArray, List.set_cons_zero, List.set_cons_succ, i64_w, i32_w]
               rfl
              refine take_ (i := 2) (N := some 77) (v := ?_) (a' := ?_) #[true, false, true, false, false, false] rfl rfl (by kernel_rfl) (fun _ _ _ h => h) (Or.inl ⟨by rfl, ?_⟩) hHeld ?_ ?_
              rotate_left
              ·rintro w' ⟨s0, s1⟩
               go_simp
               with_reducible rfl
              rotate_left
              ·simp only [Act.put, List.setIfInBounds_toArray, List.set_cons_zero, List.set_cons_succ, i64_w, i32_w]
               rfl
              refine one_ (i := 1) (N := some 76) #[true, true, true, false, false, false] rfl rfl (by kernel_rfl) (by decide) (fun K hK => ?_)
              refine goes_ Tryz.func18 (by kernel_rfl) rfl #[.agg #[.int .i32 (Int.tmod a0 100000), .slice (some ⟨go38, 0, none⟩) y331.length co41]] (by rfl) rfl rfl (by (try simp only [List.map_toArray, List.map_cons, List.map_nil]); first | done | (rw [show y331.length = x1_2.length from (Kd.R_reads' HO_1.out).1.symm] <;> rfl) | rfl | (simp only [List.length_drop, List.length_take]; rfl)) ?_
              with_reducible refine (entry_Journal_Check.calls kj31 (Int.tmod a0 100000) _ _ y331 t333 _ ?side1 ?side2 ?side3 A39.out).mono ?_
              (case side1 => repeat (first | exact (Kd.R_reads' HO_1.out).2.2 | (with_reducible refine Kd.C_alloc ?_ _) | (with_reducible refine Kd.C_drewN ?_ _) | (with_reducible refine Kd.C_drew ?_)))
              (case side2 => rw [show y331.length = x1_2.length from (Kd.R_reads' HO_1.out).1.symm]; exact (Kd.R_reads' HO_1.out).2.1)
              (case side3 => exact Glob.below (by repeat (first | (with_reducible first | exact HB.out | apply below_alloc | apply pw_below_drewN | apply below_drew1 | refine below_set ?_ GE332.out) | exact HB.out)) HG.out)
              rintro e w48 ⟨rfl, hb⟩
              refine ⟨_, rfl, ?_⟩
              have n0_ := Aside0.mk (Kd.R_below (by (with_reducible repeat (first | apply Kd.R_alloc | apply Kd.R_drewN | apply Kd.R_drew)); exact HO_1.out) hb)
              have n1_ := Aside0.mk (blk_below (g := gb332) (o := .cells #[.int .i32 (Int.tmod a0 100000), .slice (some ⟨go38, 0, none⟩) x1_2.length co41] 32 (0, 0)) (by (with_reducible repeat (first | refine blk_drewN ?_ _ | refine blk_drew ?_ | refine blk_alloc ?_ _)); exact BK332.out) hb)
              have n2_ := Aside0.mk (below_step (by repeat (first | (with_reducible first | exact HB.out | apply below_alloc | apply pw_below_drewN | apply below_drew1 | refine below_set ?_ GE332.out) | exact HB.out)) hb)
              clear HO_1
              clear BK332
              clear HB
              have HO_1 := n0_
              have BK332 := n1_
              have HB := n2_
              clear n0_ n1_ n2_
              (try clear hb)
              (try clear hb2)
              (try clear hk)
              (try clear hi)
              refine hK.out _ _ ⟨(blk_cell BK332.out 0).trans rfl, (blk_cell BK332.out 1).trans rfl⟩ (fun hHeld => ?_)
              clear hK K
              refine norm_ (a' := ?_) ?_ ?_
              rotate_left
              ·show Act.put _ (some 76) _ = _
               simp only [Act.put, List.setIfInBounds_toArray, List.set_cons_zero, List.set_cons_succ, i64_w, i32_w]
               rfl
              refine one_ (i := 3) (N := some 78) #[true, true, true, true, false, false] rfl rfl (by kernel_rfl) (by decide) (fun K hK => ?_)
              refine goes_ Tryz.func19 (by kernel_rfl) rfl #[.agg #[.int .i32 (Int.tmod a0 100000), .slice (some ⟨go38, 0, none⟩) y331.length co41]] (by rfl) rfl rfl (by (try simp only [List.map_toArray, List.map_cons, List.map_nil]); first | done | (rw [show y331.length = x1_2.length from (Kd.R_reads' HO_1.out).1.symm] <;> rfl) | rfl | (simp only [List.length_drop, List.length_take]; rfl)) ?_
              with_reducible refine (transposallaw09_Check.calls kj31 (Int.tmod a0 100000) _ _ y331 t334 _ ?side1 ?side2 A40.out).mono ?_
              (case side1 => repeat (first | exact (Kd.R_reads' HO_1.out).2.2 | (with_reducible refine Kd.C_alloc ?_ _) | (with_reducible refine Kd.C_drewN ?_ _) | (with_reducible refine Kd.C_drew ?_)))
              (case side2 => rw [show y331.length = x1_2.length from (Kd.R_reads' HO_1.out).1.symm]; exact (Kd.R_reads' HO_1.out).2.1)
              rintro e w49 ⟨rfl, hb⟩
              refine ⟨_, rfl, ?_⟩
              have n0_ := Aside0.mk (Kd.R_below (by (with_reducible repeat (first | apply Kd.R_alloc | apply Kd.R_drewN | apply Kd.R_drew)); exact HO_1.out) hb)
              have n1_ := Aside0.mk (blk_below (g := gb332) (o := .cells #[.int .i32 (Int.tmod a0 100000), .slice (some ⟨go38, 0, none⟩) x1_2.length co41] 32 (0, 0)) (by (with_reducible repeat (first | refine blk_drewN ?_ _ | refine blk_drew ?_ | refine blk_alloc ?_ _)); exact BK332.out) hb)
              have n2_ := Aside0.mk (below_step (by repeat (first | (with_reducible first | exact HB.out | apply below_alloc | apply pw_below_drewN | apply below_drew1 | refine below_set ?_ GE332.out) | exact HB.out)) hb)
              clear HO_1
              clear BK332
              clear HB
              have HO_1 := n0_
              have BK332 := n1_
              have HB := n2_
              clear n0_ n1_ n2_
              (try clear hb)
              (try clear hb2)
              (try clear hk)
              (try clear hi)
              refine hK.out _ _ ⟨(blk_cell BK332.out 0).trans rfl, (blk_cell BK332.out 1).trans rfl⟩ (fun hHeld => ?_)
              clear hK K
              refine norm_ (a' := ?_) ?_ ?_
              rotate_left
              ·show Act.put _ (some 78) _ = _
               simp only [Act.put, List.setIfInBounds_toArray, List.set_cons_zero, List.set_cons_succ, i64_w, i32_w]
               rfl
              refine pure_ (i := 4) (N := some 79) (v := ?_) (a' := ?_) #[true, true, true, true, true, false] rfl rfl (by kernel_rfl) (fun _ _ _ h => h) (Or.inl ⟨by rfl, ?_⟩) ?_ ?_
              rotate_left
              ·intro w'
               go_simp
               with_reducible rfl
              rotate_left
              ·simp only [Act.put, List.setIfInBounds_toArray, List.set_cons_zero, List.set_cons_succ, i64_w, i32_w]
               rfl
              refine pure_ (i := 5) (N := some 10) (v := ?_) (a' := ?_) #[true, true, true, true, true, true] rfl rfl (by kernel_rfl) (fun _ _ _ h => h) (Or.inl ⟨by rfl, ?_⟩) ?_ ?_
              rotate_left
              ·intro w'
               go_simp
               with_reducible rfl
              rotate_left
              ·simp only [Act.put, List.setIfInBounds_toArray, List.set_cons_zero, List.set_cons_succ, i64_w, i32_w]
               rfl
              refine done_ (by kernel_rfl) ?_
              try go_wp2
              go_ret
              exact ⟨by first | rfl | (simp [errW_none, errW_some] <;> rfl) | (simp [*, errW_none, errW_some] <;> rfl), by repeat (first | (with_reducible first | exact HB.out | apply below_alloc | apply pw_below_drewN | apply below_drew1 | refine below_set ?_ GE332.out) | exact HB.out)⟩
             ·rw [if_neg c37] at H
              exact absurd H (by simp)
            ·replace c36 := Bool.eq_false_iff.mpr c36
             subst c36
             have H1 : ((entry_Journal_Check.f kj31 (Int.tmod a0 100000) x1_2).bind fun t336 => ((transposallaw09_Check.f kj31 (Int.tmod a0 100000) x1_2).bind fun t337 => (some (t336 == t337)))) = some r := by rw [if_neg (show ¬ (false = true) by decide)] at H; exact H
             clear H
             have H := H1
             clear H1
             replace H := Option.bind_eq_some_iff.mp H
             obtain ⟨t336, A500, H⟩ := H
             replace H : ((transposallaw09_Check.f kj31 (Int.tmod a0 100000) x1_2).bind fun t337 => (some (t336 == t337))) = some r := H
             have A50 := Aside0.mk A500
             clear A500
             replace H := Option.bind_eq_some_iff.mp H
             obtain ⟨t337, A510, H⟩ := H
             replace H : (some (t336 == t337)) = some r := H
             have A51 := Aside0.mk A510
             clear A510
             obtain rfl := Option.some.inj H
             obtain ⟨Ao52, co52, eo52⟩ := Kd.R_slice HO_1.out
             subst eo52
             try go_wp2_with (first | ((with_reducible refine gate_dst (N := 14) rfl ?_); refine box_event ?hg (N := 14) ?hd (cs := #[.int .i32 0, .slice none 0 0]) (t := 32) ?hr ?_; (case hd => rfl); (case hg => rfl); (case hr => first | (go_simp; done) | (go_simp; rfl)); intro gb335 hg w53 hbox hb; have n0_ := Aside0.mk (Kd.R_below (by (with_reducible repeat (first | apply Kd.R_alloc | apply Kd.R_drewN | apply Kd.R_drew)); exact HO_1.out) hb); have n1_ := Aside0.mk (below_step (by repeat (first | (with_reducible first | exact HB.out | apply below_alloc | apply pw_below_drewN | apply below_drew1) | exact HB.out)) hb); have n2_ := Aside0.mk (hbox); have n3_ := Aside0.mk ((by rw [hg]; exact (below_size (by repeat (first | (with_reducible first | exact HB.out | apply below_alloc | apply pw_below_drewN | apply below_drew1) | exact HB.out))) : w.heap.size ≤ gb335)); have n4_ := Aside0.mk ((by rw [hg]; exact (below_size (by repeat (first | (with_reducible first | exact HB.out | apply below_alloc | apply pw_below_drewN | apply below_drew1) | exact HB.out))) : w.heap.size ≤ gb335)); clear HO_1; clear HB; have HO_1 := n0_; have HB := n1_; have BK335 := n2_; have GW335 := n3_; have GE335 := n4_; clear n0_ n1_ n2_ n3_ n4_; clear hb hbox hg; have hcz54_0 : w53.cell? ⟨gb335, 0, none⟩ = some (.int .i32 0) := (blk_cell BK335.out 0).trans rfl; have hcz54_1 : w53.cell? ⟨gb335, 1, none⟩ = some (.slice none 0 0) := (blk_cell BK335.out 1).trans rfl; have hfz54_0 := blk_frozen BK335.out 0; have hfz54_1 := blk_frozen BK335.out 1))
             have n0_ : Aside0 (Kd.R k28 28 ((w53.setCell ⟨gb335, 0, none⟩ (.int .i32 (Int.tmod a0 100000))).setCell ⟨gb335, 1, none⟩ (.slice Ao52 x1_2.length co52)) w.heap.size (fun _ => True) (.slice Ao52 x1_2.length co52) x1_2) := ⟨by (with_reducible repeat (first | apply Kd.R_alloc | apply Kd.R_drewN | apply Kd.R_drew)); exact Kd.R_mono (Kd.R_far (p := ⟨gb335, 1, none⟩) (Kd.R_far (p := ⟨gb335, 0, none⟩) (Kd.R_types HO_1.out BK335.out (by decide)) (fun _ hk => hk.2) (.int .i32 (Int.tmod a0 100000))) (fun _ hk => hk.2) (.slice Ao52 x1_2.length co52)) (fun _ hk => trivial)⟩
             have n1_ : Aside0 (((w53.setCell ⟨gb335, 0, none⟩ (.int .i32 (Int.tmod a0 100000))).setCell ⟨gb335, 1, none⟩ (.slice Ao52 x1_2.length co52)).heap[gb335]? = some (.cells #[.int .i32 (Int.tmod a0 100000), .slice Ao52 x1_2.length co52] 32 (0, 0))) := ⟨by (with_reducible repeat (first | refine blk_drewN ?_ _ | refine blk_drew ?_ | refine blk_alloc ?_ _)); refine blk_put (cs := #[.int .i32 (Int.tmod a0 100000), .slice none 0 0]) ?_ 1 _ rfl; (with_reducible repeat (first | refine blk_drewN ?_ _ | refine blk_drew ?_ | refine blk_alloc ?_ _)); refine blk_put (cs := #[.int .i32 0, .slice none 0 0]) ?_ 0 _ rfl; (with_reducible repeat (first | refine blk_drewN ?_ _ | refine blk_drew ?_ | refine blk_alloc ?_ _)); exact BK335.out⟩
             have n2_ : Aside0 (Below w.heap.size w ((w53.setCell ⟨gb335, 0, none⟩ (.int .i32 (Int.tmod a0 100000))).setCell ⟨gb335, 1, none⟩ (.slice Ao52 x1_2.length co52))) := ⟨by repeat (first | (with_reducible first | exact HB.out | apply below_alloc | apply pw_below_drewN | apply below_drew1 | refine below_set ?_ GE335.out) | exact HB.out)⟩
             (try clear HO_1)
             (try clear BK335)
             (try clear HB)
             generalize ((w53.setCell ⟨gb335, 0, none⟩ (.int .i32 (Int.tmod a0 100000))).setCell ⟨gb335, 1, none⟩ (.slice Ao52 x1_2.length co52)) = w55 at n0_ n1_ n2_ ⊢
             have HO_1 := n0_
             have BK335 := n1_
             have HB := n2_
             clear n0_ n1_ n2_
             have n0_ := Aside0.mk (Kd.R_drew HO_1.out)
             have n1_ := Aside0.mk (blk_drew BK335.out)
             have n2_ := Aside0.mk (below_drew1 HB.out)
             clear HO_1
             clear BK335
             clear HB
             have HO_1 := n0_
             have BK335 := n1_
             have HB := n2_
             clear n0_ n1_ n2_
             refine start_ (n := 6) (S := fun w' => w'.cell? ⟨gb335, 0, none⟩ = some (.int .i32 (Int.tmod a0 100000)) ∧ w'.cell? ⟨gb335, 1, none⟩ = some (.slice Ao52 x1_2.length co52)) (ds := []) #[false, false, false, false, false, false] (by kernel_rfl) rfl rfl ⟨(blk_cell BK335.out 0).trans rfl, (blk_cell BK335.out 1).trans rfl⟩ (fun hHeld => ?_)
             generalize w55.drew = w56 at HO_1 BK335 HB hHeld ⊢
             refine take_ (i := 0) (N := some 75) (v := ?_) (a' := ?_) #[true, false, false, false, false, false] rfl rfl (by kernel_rfl) (fun _ _ _ h => h) (Or.inl ⟨by rfl, ?_⟩) hHeld ?_ ?_
             rotate_left
             ·rintro w' ⟨s0, s1⟩
              go_simp
              with_reducible rfl
             rotate_left
             ·simp only [Act.put, List.setIfInBounds_toArray, List.set_cons_zero, List.set_cons_succ, i64_w, i32_w]
              rfl
             refine take_ (i := 2) (N := some 77) (v := ?_) (a' := ?_) #[true, false, true, false, false, false] rfl rfl (by kernel_rfl) (fun _ _ _ h => h) (Or.inl ⟨by rfl, ?_⟩) hHeld ?_ ?_
             rotate_left
             ·rintro w' ⟨s0, s1⟩
              go_simp
              with_reducible rfl
             rotate_left
             ·simp only [Act.put, List.setIfInBounds_toArray, List.set_cons_zero, List.set_cons_succ, i64_w, i32_w]
              rfl
             refine one_ (i := 1) (N := some 76) #[true, true, true, false, false, false] rfl rfl (by kernel_rfl) (by decide) (fun K hK => ?_)
             refine goes_ Tryz.func18 (by kernel_rfl) rfl #[.agg #[.int .i32 (Int.tmod a0 100000), .slice Ao52 x1_2.length co52]] (by rfl) rfl rfl (by (try simp only [List.map_toArray, List.map_cons, List.map_nil]); first | done | rfl | (simp only [List.length_drop, List.length_take]; rfl)) ?_
             with_reducible refine (entry_Journal_Check.calls kj31 (Int.tmod a0 100000) _ _ x1_2 t336 _ ?side1 ?side2 ?side3 A50.out).mono ?_
             (case side1 => repeat (first | exact (Kd.R_reads' HO_1.out).2.2 | (with_reducible refine Kd.C_alloc ?_ _) | (with_reducible refine Kd.C_drewN ?_ _) | (with_reducible refine Kd.C_drew ?_)))
             (case side2 => exact (Kd.R_reads' HO_1.out).2.1)
             (case side3 => exact Glob.below (by repeat (first | (with_reducible first | exact HB.out | apply below_alloc | apply pw_below_drewN | apply below_drew1 | refine below_set ?_ GE335.out) | exact HB.out)) HG.out)
             rintro e w57 ⟨rfl, hb⟩
             refine ⟨_, rfl, ?_⟩
             have n0_ := Aside0.mk (Kd.R_below (by (with_reducible repeat (first | apply Kd.R_alloc | apply Kd.R_drewN | apply Kd.R_drew)); exact HO_1.out) hb)
             have n1_ := Aside0.mk (blk_below (g := gb335) (o := .cells #[.int .i32 (Int.tmod a0 100000), .slice Ao52 x1_2.length co52] 32 (0, 0)) (by (with_reducible repeat (first | refine blk_drewN ?_ _ | refine blk_drew ?_ | refine blk_alloc ?_ _)); exact BK335.out) hb)
             have n2_ := Aside0.mk (below_step (by repeat (first | (with_reducible first | exact HB.out | apply below_alloc | apply pw_below_drewN | apply below_drew1 | refine below_set ?_ GE335.out) | exact HB.out)) hb)
             clear HO_1
             clear BK335
             clear HB
             have HO_1 := n0_
             have BK335 := n1_
             have HB := n2_
             clear n0_ n1_ n2_
             (try clear hb)
             (try clear hb2)
             (try clear hk)
             (try clear hi)
             refine hK.out _ _ ⟨(blk_cell BK335.out 0).trans rfl, (blk_cell BK335.out 1).trans rfl⟩ (fun hHeld => ?_)
             clear hK K
             refine norm_ (a' := ?_) ?_ ?_
             rotate_left
             ·show Act.put _ (some 76) _ = _
              simp only [Act.put, List.setIfInBounds_toArray, List.set_cons_zero, List.set_cons_succ, i64_w, i32_w]
              rfl
             refine one_ (i := 3) (N := some 78) #[true, true, true, true, false, false] rfl rfl (by kernel_rfl) (by decide) (fun K hK => ?_)
             refine goes_ Tryz.func19 (by kernel_rfl) rfl #[.agg #[.int .i32 (Int.tmod a0 100000), .slice Ao52 x1_2.length co52]] (by rfl) rfl rfl (by (try simp only [List.map_toArray, List.map_cons, List.map_nil]); first | done | rfl | (simp only [List.length_drop, List.length_take]; rfl)) ?_
             with_reducible refine (transposallaw09_Check.calls kj31 (Int.tmod a0 100000) _ _ x1_2 t337 _ ?side1 ?side2 A51.out).mono ?_
             (case side1 => repeat (first | exact (Kd.R_reads' HO_1.out).2.2 | (with_reducible refine Kd.C_alloc ?_ _) | (with_reducible refine Kd.C_drewN ?_ _) | (with_reducible refine Kd.C_drew ?_)))
             (case side2 => exact (Kd.R_reads' HO_1.out).2.1)
             rintro e w58 ⟨rfl, hb⟩
             refine ⟨_, rfl, ?_⟩
             have n0_ := Aside0.mk (Kd.R_below (by (with_reducible repeat (first | apply Kd.R_alloc | apply Kd.R_drewN | apply Kd.R_drew)); exact HO_1.out) hb)
             have n1_ := Aside0.mk (blk_below (g := gb335) (o := .cells #[.int .i32 (Int.tmod a0 100000), .slice Ao52 x1_2.length co52] 32 (0, 0)) (by (with_reducible repeat (first | refine blk_drewN ?_ _ | refine blk_drew ?_ | refine blk_alloc ?_ _)); exact BK335.out) hb)
             have n2_ := Aside0.mk (below_step (by repeat (first | (with_reducible first | exact HB.out | apply below_alloc | apply pw_below_drewN | apply below_drew1 | refine below_set ?_ GE335.out) | exact HB.out)) hb)
             clear HO_1
             clear BK335
             clear HB
             have HO_1 := n0_
             have BK335 := n1_
             have HB := n2_
             clear n0_ n1_ n2_
             (try clear hb)
             (try clear hb2)
             (try clear hk)
             (try clear hi)
             refine hK.out _ _ ⟨(blk_cell BK335.out 0).trans rfl, (blk_cell BK335.out 1).trans rfl⟩ (fun hHeld => ?_)
             clear hK K
             refine norm_ (a' := ?_) ?_ ?_
             rotate_left
             ·show Act.put _ (some 78) _ = _
              simp only [Act.put, List.setIfInBounds_toArray, List.set_cons_zero, List.set_cons_succ, i64_w, i32_w]
              rfl
             refine pure_ (i := 4) (N := some 79) (v := ?_) (a' := ?_) #[true, true, true, true, true, false] rfl rfl (by kernel_rfl) (fun _ _ _ h => h) (Or.inl ⟨by rfl, ?_⟩) ?_ ?_
             rotate_left
             ·intro w'
              go_simp
              with_reducible rfl
             rotate_left
             ·simp only [Act.put, List.setIfInBounds_toArray, List.set_cons_zero, List.set_cons_succ, i64_w, i32_w]
              rfl
             refine pure_ (i := 5) (N := some 10) (v := ?_) (a' := ?_) #[true, true, true, true, true, true] rfl rfl (by kernel_rfl) (fun _ _ _ h => h) (Or.inl ⟨by rfl, ?_⟩) ?_ ?_
             rotate_left
             ·intro w'
              go_simp
              with_reducible rfl
             rotate_left
             ·simp only [Act.put, List.setIfInBounds_toArray, List.set_cons_zero, List.set_cons_succ, i64_w, i32_w]
              rfl
             refine done_ (by kernel_rfl) ?_
             try go_wp2
             go_ret
             exact ⟨by first | rfl | (simp [errW_none, errW_some] <;> rfl) | (simp [*, errW_none, errW_some] <;> rfl), by repeat (first | (with_reducible first | exact HB.out | apply below_alloc | apply pw_below_drewN | apply below_drew1 | refine below_set ?_ GE335.out) | exact HB.out)⟩
      ·replace c21 := Bool.eq_false_iff.mpr c21
       subst c21
       have H1 : ((entry_Journal_Check.f k1 a0 x1_1).bind fun t339 => ((transposallaw09_Check.f k1 a0 x1_1).bind fun t340 => (some (t339 == t340)))) = some r := by rw [if_neg (show ¬ (false = true) by decide)] at H; exact H
       clear H
       have H := H1
       clear H1
       replace H := Option.bind_eq_some_iff.mp H
       obtain ⟨t339, A590, H⟩ := H
       replace H : ((transposallaw09_Check.f k1 a0 x1_1).bind fun t340 => (some (t339 == t340))) = some r := H
       have A59 := Aside0.mk A590
       clear A590
       replace H := Option.bind_eq_some_iff.mp H
       obtain ⟨t340, A600, H⟩ := H
       replace H : (some (t339 == t340)) = some r := H
       have A60 := Aside0.mk A600
       clear A600
       obtain rfl := Option.some.inj H
       try go_wp2_with (first | ((with_reducible refine gate_dst (N := 14) rfl ?_); refine box_event ?hg (N := 14) ?hd (cs := #[.int .i32 0, .slice none 0 0]) (t := 32) ?hr ?_; (case hd => rfl); (case hg => rfl); (case hr => first | (go_simp; done) | (go_simp; rfl)); intro gb338 hg w61 hbox hb; have n0_ := Aside0.mk (Kd.R_below (by (with_reducible repeat (first | apply Kd.R_alloc | apply Kd.R_drewN | apply Kd.R_drew)); exact HO_1.out) hb); have n1_ := Aside0.mk (below_step (by repeat (first | (with_reducible first | exact HB.out | apply below_alloc | apply pw_below_drewN | apply below_drew1) | exact HB.out)) hb); have n2_ := Aside0.mk (hbox); have n3_ := Aside0.mk ((by rw [hg]; exact (below_size (by repeat (first | (with_reducible first | exact HB.out | apply below_alloc | apply pw_below_drewN | apply below_drew1) | exact HB.out))) : w.heap.size ≤ gb338)); have n4_ := Aside0.mk ((by rw [hg]; exact (below_size (by repeat (first | (with_reducible first | exact HB.out | apply below_alloc | apply pw_below_drewN | apply below_drew1) | exact HB.out))) : w.heap.size ≤ gb338)); clear HO_1; clear HB; have HO_1 := n0_; have HB := n1_; have BK338 := n2_; have GW338 := n3_; have GE338 := n4_; clear n0_ n1_ n2_ n3_ n4_; clear hb hbox hg; have hcz62_0 : w61.cell? ⟨gb338, 0, none⟩ = some (.int .i32 0) := (blk_cell BK338.out 0).trans rfl; have hcz62_1 : w61.cell? ⟨gb338, 1, none⟩ = some (.slice none 0 0) := (blk_cell BK338.out 1).trans rfl; have hfz62_0 := blk_frozen BK338.out 0; have hfz62_1 := blk_frozen BK338.out 1))
       have n0_ : Aside0 (Kd.R k28 28 ((w61.setCell ⟨gb338, 0, none⟩ (.int .i32 a0)).setCell ⟨gb338, 1, none⟩ (.slice Ao13 x1_1.length co13)) w.heap.size (fun _ => True) (.slice Ao13 x1_1.length co13) x1_1) := ⟨by (with_reducible repeat (first | apply Kd.R_alloc | apply Kd.R_drewN | apply Kd.R_drew)); exact Kd.R_mono (Kd.R_far (p := ⟨gb338, 1, none⟩) (Kd.R_far (p := ⟨gb338, 0, none⟩) (Kd.R_types HO_1.out BK338.out (by decide)) (fun _ hk => hk.2) (.int .i32 a0)) (fun _ hk => hk.2) (.slice Ao13 x1_1.length co13)) (fun _ hk => trivial)⟩
       have n1_ : Aside0 (((w61.setCell ⟨gb338, 0, none⟩ (.int .i32 a0)).setCell ⟨gb338, 1, none⟩ (.slice Ao13 x1_1.length co13)).heap[gb338]? = some (.cells #[.int .i32 a0, .slice Ao13 x1_1.length co13] 32 (0, 0))) := ⟨by (with_reducible repeat (first | refine blk_drewN ?_ _ | refine blk_drew ?_ | refine blk_alloc ?_ _)); refine blk_put (cs := #[.int .i32 a0, .slice none 0 0]) ?_ 1 _ rfl; (with_reducible repeat (first | refine blk_drewN ?_ _ | refine blk_drew ?_ | refine blk_alloc ?_ _)); refine blk_put (cs := #[.int .i32 0, .slice none 0 0]) ?_ 0 _ rfl; (with_reducible repeat (first | refine blk_drewN ?_ _ | refine blk_drew ?_ | refine blk_alloc ?_ _)); exact BK338.out⟩
       have n2_ : Aside0 (Below w.heap.size w ((w61.setCell ⟨gb338, 0, none⟩ (.int .i32 a0)).setCell ⟨gb338, 1, none⟩ (.slice Ao13 x1_1.length co13))) := ⟨by repeat (first | (with_reducible first | exact HB.out | apply below_alloc | apply pw_below_drewN | apply below_drew1 | refine below_set ?_ GE338.out) | exact HB.out)⟩
       (try clear HO_1)
       (try clear BK338)
       (try clear HB)
       generalize ((w61.setCell ⟨gb338, 0, none⟩ (.int .i32 a0)).setCell ⟨gb338, 1, none⟩ (.slice Ao13 x1_1.length co13)) = w63 at n0_ n1_ n2_ ⊢
       have HO_1 := n0_
       have BK338 := n1_
       have HB := n2_
       clear n0_ n1_ n2_
       have n0_ := Aside0.mk (Kd.R_drew HO_1.out)
       have n1_ := Aside0.mk (blk_drew BK338.out)
       have n2_ := Aside0.mk (below_drew1 HB.out)
       clear HO_1
       clear BK338
       clear HB
       have HO_1 := n0_
       have BK338 := n1_
       have HB := n2_
       clear n0_ n1_ n2_
       refine start_ (n := 6) (S := fun w' => w'.cell? ⟨gb338, 0, none⟩ = some (.int .i32 a0) ∧ w'.cell? ⟨gb338, 1, none⟩ = some (.slice Ao13 x1_1.length co13)) (ds := []) #[false, false, false, false, false, false] (by kernel_rfl) rfl rfl ⟨(blk_cell BK338.out 0).trans rfl, (blk_cell BK338.out 1).trans rfl⟩ (fun hHeld => ?_)
       generalize w63.drew = w64 at HO_1 BK338 HB hHeld ⊢
       refine take_ (i := 0) (N := some 75) (v := ?_) (a' := ?_) #[true, false, false, false, false, false] rfl rfl (by kernel_rfl) (fun _ _ _ h => h) (Or.inl ⟨by rfl, ?_⟩) hHeld ?_ ?_
       rotate_left
       ·rintro w' ⟨s0, s1⟩
        go_simp
        with_reducible rfl
       rotate_left
       ·simp only [Act.put, List.setIfInBounds_toArray, List.set_cons_zero, List.set_cons_succ, i64_w, i32_w]
        rfl
       refine take_ (i := 2) (N := some 77) (v := ?_) (a' := ?_) #[true, false, true, false, false, false] rfl rfl (by kernel_rfl) (fun _ _ _ h => h) (Or.inl ⟨by rfl, ?_⟩) hHeld ?_ ?_
       rotate_left
       ·rintro w' ⟨s0, s1⟩
        go_simp
        with_reducible rfl
       rotate_left
       ·simp only [Act.put, List.setIfInBounds_toArray, List.set_cons_zero, List.set_cons_succ, i64_w, i32_w]
        rfl
       refine one_ (i := 1) (N := some 76) #[true, true, true, false, false, false] rfl rfl (by kernel_rfl) (by decide) (fun K hK => ?_)
       refine goes_ Tryz.func18 (by kernel_rfl) rfl #[.agg #[.int .i32 a0, .slice Ao13 x1_1.length co13]] (by rfl) rfl rfl (by (try simp only [List.map_toArray, List.map_cons, List.map_nil]); first | done | rfl | (simp only [List.length_drop, List.length_take]; rfl)) ?_
       with_reducible refine (entry_Journal_Check.calls k1 a0 _ _ x1_1 t339 _ ?side1 ?side2 ?side3 A59.out).mono ?_
       (case side1 => repeat (first | exact (Kd.R_reads' HO_1.out).2.2 | (with_reducible refine Kd.C_alloc ?_ _) | (with_reducible refine Kd.C_drewN ?_ _) | (with_reducible refine Kd.C_drew ?_)))
       (case side2 => exact (Kd.R_reads' HO_1.out).2.1)
       (case side3 => exact Glob.below (by repeat (first | (with_reducible first | exact HB.out | apply below_alloc | apply pw_below_drewN | apply below_drew1 | refine below_set ?_ GE338.out) | exact HB.out)) HG.out)
       rintro e w65 ⟨rfl, hb⟩
       refine ⟨_, rfl, ?_⟩
       have n0_ := Aside0.mk (Kd.R_below (by (with_reducible repeat (first | apply Kd.R_alloc | apply Kd.R_drewN | apply Kd.R_drew)); exact HO_1.out) hb)
       have n1_ := Aside0.mk (blk_below (g := gb338) (o := .cells #[.int .i32 a0, .slice Ao13 x1_1.length co13] 32 (0, 0)) (by (with_reducible repeat (first | refine blk_drewN ?_ _ | refine blk_drew ?_ | refine blk_alloc ?_ _)); exact BK338.out) hb)
       have n2_ := Aside0.mk (below_step (by repeat (first | (with_reducible first | exact HB.out | apply below_alloc | apply pw_below_drewN | apply below_drew1 | refine below_set ?_ GE338.out) | exact HB.out)) hb)
       clear HO_1
       clear BK338
       clear HB
       have HO_1 := n0_
       have BK338 := n1_
       have HB := n2_
       clear n0_ n1_ n2_
       (try clear hb)
       (try clear hb2)
       (try clear hk)
       (try clear hi)
       refine hK.out _ _ ⟨(blk_cell BK338.out 0).trans rfl, (blk_cell BK338.out 1).trans rfl⟩ (fun hHeld => ?_)
       clear hK K
       refine norm_ (a' := ?_) ?_ ?_
       rotate_left
       ·show Act.put _ (some 76) _ = _
        simp only [Act.put, List.setIfInBounds_toArray, List.set_cons_zero, List.set_cons_succ, i64_w, i32_w]
        rfl
       refine one_ (i := 3) (N := some 78) #[true, true, true, true, false, false] rfl rfl (by kernel_rfl) (by decide) (fun K hK => ?_)
       refine goes_ Tryz.func19 (by kernel_rfl) rfl #[.agg #[.int .i32 a0, .slice Ao13 x1_1.length co13]] (by rfl) rfl rfl (by (try simp only [List.map_toArray, List.map_cons, List.map_nil]); first | done | rfl | (simp only [List.length_drop, List.length_take]; rfl)) ?_
       with_reducible refine (transposallaw09_Check.calls k1 a0 _ _ x1_1 t340 _ ?side1 ?side2 A60.out).mono ?_
       (case side1 => repeat (first | exact (Kd.R_reads' HO_1.out).2.2 | (with_reducible refine Kd.C_alloc ?_ _) | (with_reducible refine Kd.C_drewN ?_ _) | (with_reducible refine Kd.C_drew ?_)))
       (case side2 => exact (Kd.R_reads' HO_1.out).2.1)
       rintro e w66 ⟨rfl, hb⟩
       refine ⟨_, rfl, ?_⟩
       have n0_ := Aside0.mk (Kd.R_below (by (with_reducible repeat (first | apply Kd.R_alloc | apply Kd.R_drewN | apply Kd.R_drew)); exact HO_1.out) hb)
       have n1_ := Aside0.mk (blk_below (g := gb338) (o := .cells #[.int .i32 a0, .slice Ao13 x1_1.length co13] 32 (0, 0)) (by (with_reducible repeat (first | refine blk_drewN ?_ _ | refine blk_drew ?_ | refine blk_alloc ?_ _)); exact BK338.out) hb)
       have n2_ := Aside0.mk (below_step (by repeat (first | (with_reducible first | exact HB.out | apply below_alloc | apply pw_below_drewN | apply below_drew1 | refine below_set ?_ GE338.out) | exact HB.out)) hb)
       clear HO_1
       clear BK338
       clear HB
       have HO_1 := n0_
       have BK338 := n1_
       have HB := n2_
       clear n0_ n1_ n2_
       (try clear hb)
       (try clear hb2)
       (try clear hk)
       (try clear hi)
       refine hK.out _ _ ⟨(blk_cell BK338.out 0).trans rfl, (blk_cell BK338.out 1).trans rfl⟩ (fun hHeld => ?_)
       clear hK K
       refine norm_ (a' := ?_) ?_ ?_
       rotate_left
       ·show Act.put _ (some 78) _ = _
        simp only [Act.put, List.setIfInBounds_toArray, List.set_cons_zero, List.set_cons_succ, i64_w, i32_w]
        rfl
       refine pure_ (i := 4) (N := some 79) (v := ?_) (a' := ?_) #[true, true, true, true, true, false] rfl rfl (by kernel_rfl) (fun _ _ _ h => h) (Or.inl ⟨by rfl, ?_⟩) ?_ ?_
       rotate_left
       ·intro w'
        go_simp
        with_reducible rfl
       rotate_left
       ·simp only [Act.put, List.setIfInBounds_toArray, List.set_cons_zero, List.set_cons_succ, i64_w, i32_w]
        rfl
       refine pure_ (i := 5) (N := some 10) (v := ?_) (a' := ?_) #[true, true, true, true, true, true] rfl rfl (by kernel_rfl) (fun _ _ _ h => h) (Or.inl ⟨by rfl, ?_⟩) ?_ ?_
       rotate_left
       ·intro w'
        go_simp
        with_reducible rfl
       rotate_left
       ·simp only [Act.put, List.setIfInBounds_toArray, List.set_cons_zero, List.set_cons_succ, i64_w, i32_w]
        rfl
       refine done_ (by kernel_rfl) ?_
       try go_wp2
       go_ret
       exact ⟨by first | rfl | (simp [errW_none, errW_some] <;> rfl) | (simp [*, errW_none, errW_some] <;> rfl), by repeat (first | (with_reducible first | exact HB.out | apply below_alloc | apply pw_below_drewN | apply below_drew1 | refine below_set ?_ GE338.out) | exact HB.out)⟩
 ·replace c7 := Bool.eq_false_iff.mpr c7
  subst c7
  have H1 : (some false) = some r := by rw [if_neg (show ¬ (false = true) by decide)] at H; exact H
  clear H
  have H := H1
  clear H1
  obtain rfl := Option.some.inj H
  go_enter Tryz.func4, Tryz.ntmps4
  go_wp2_with (first | ((with_reducible refine gate_callee (f := 13) rfl ?_); refine goesL_ (some 15) rfl rfl Tryz.func13 (by kernel_rfl) rfl #[] rfl (by (try simp only [List.map_toArray, List.map_cons, List.map_nil]); first | done | rfl | (simp only [List.length_drop, List.length_take]; rfl)) ?_; (with_reducible refine (transposallaw09_Awake.calls k  false _ ?side1 A6.out).mono ?_); (case side1 => exact Glob.below (by repeat (first | (with_reducible first | exact HB.out | apply below_alloc | apply pw_below_drewN | apply below_drew1) | exact HB.out)) HG.out); rintro e w67 ⟨rfl, hb⟩; refine ⟨_, rfl, ?_⟩; have n0_ := Aside0.mk (below_step (by repeat (first | (with_reducible first | exact HB.out | apply below_alloc | apply pw_below_drewN | apply below_drew1) | exact HB.out)) hb); clear HB; have HB := n0_; clear n0_; (try clear hb); (try clear hb2); (try clear hk); (try clear hi)))
  go_ret
  exact ⟨by first | rfl | (simp [errW_none, errW_some] <;> rfl) | (simp [*, errW_none, errW_some] <;> rfl), by repeat (first | (with_reducible first | exact HB.out | apply below_alloc | apply pw_below_drewN | apply below_drew1) | exact HB.out)⟩

/-- THE ONE PURE STATEMENT of transposallaw09_EntryChecks: yours. -/
def transposallaw09_EntryChecks.Pure : Prop := ∀ (a0 : Int) (l1 : List (S28)) (a2 : Bool) (a3 : Bool) (a4 : Int), (Lit.int .i32 a0).wf = true → l1.length ≤ maxLen → (∀ y, y ∈ l1 → ((Lit.int .u32 y.f0).wf = true ∧ (Lit.int .u16 y.f1).wf = true ∧ (Lit.int .u16 y.f2).wf = true ∧ (Lit.int .i64 y.f3).wf = true)) → (Lit.int .i64 a4).wf = true → ∃ k, transposallaw09_EntryChecks.f k a0 l1 a2 a3 a4 = some true

end Go.Proofs.YtddaogebacigbaaGreatDoor.XA
