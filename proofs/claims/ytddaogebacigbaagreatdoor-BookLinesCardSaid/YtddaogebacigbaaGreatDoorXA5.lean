-- Written by a program of this session's (wip/xp) out of the translation; given functions by hand.
import Derived.Test.YtddaogebacigbaaGreatDoorXBits
import Derived.Test.YtddaogebacigbaaGreatDoorXA0
import Derived.Test.YtddaogebacigbaaGreatDoorXA3
import Derived.Test.YtddaogebacigbaaGreatDoorXA4
namespace Go.Proofs.YtddaogebacigbaaGreatDoor.XA
open Go.RowKit Go.Proofs.YtddaogebacigbaaGreatDoorW.PrintWords Go.Proofs.YtddaogebacigbaaGreatDoorW.PrintLast Go.Proofs.YtddaogebacigbaaGreatDoorW.PrintMore
attribute [local go_sem] max2_int min2_int max_two min_two max_three min_three max_four min_four   -- for this text's walks alone
set_option linter.unusedVariables false
set_option linter.unusedSimpArgs false

/-! ### transposallaw07_Make: function 50 -/
def transposallaw07_Make.l0 : Nat → List Int → List Int → Int → Int → Option (List Int)
 | 0, _, _, _, _ => none
 | k + 1, x3, x6, x7, x8 => if x8 < x7 then (if 0 ≤ x8 then (if x8 < (x6.length : Int) then ((unit_Units_uint16_78.f k x3 (IntKind.u16.wrap (1 + (Int.tmod (rd x6 x8) 9)))).bind fun t159 => (if t159 = true then (transposallaw07_Make.l0 k x3 x6 x7 (wrap64 (x8 + 1))) else (if x3.length < 70368744177664 then (transposallaw07_Make.l0 k (x3 ++ [IntKind.u16.wrap (1 + (Int.tmod (rd x6 x8) 9))]) x6 x7 (wrap64 (x8 + 1))) else (none)))) else (none)) else (none)) else ((unit_Units_uint16_79.f k x3).bind fun t163 => (some t163))
def transposallaw07_Make.f (k : Nat) (l0 : List Int) : Option (List Int) := transposallaw07_Make.l0 k ([] : List Int) l0 (l0.length : Int) 0
theorem transposallaw07_Make.mono_l : ∀ k, (∀ y0 y1 y2 y3, LeO (transposallaw07_Make.l0 k y0 y1 y2 y3) (transposallaw07_Make.l0 (k + 1) y0 y1 y2 y3))
 | 0 => fun _ _ _ _ r h => by simp [transposallaw07_Make.l0] at h
 | k + 1 => by
  have ih0 := transposallaw07_Make.mono_l k
  ·intro y0 y1 y2 y3
   unfold transposallaw07_Make.l0
   repeat' (with_reducible first | apply ih0 | apply unit_Units_uint16_78.mono | apply unit_Units_uint16_79.mono | apply LeO.refl | apply LeO.none | refine LeO.ite ?_ ?_ | refine LeO.bind ?_ (fun _ => ?_))
theorem transposallaw07_Make.mono : ∀ a0 k, LeO (transposallaw07_Make.f k a0) (transposallaw07_Make.f (k + 1) a0) := by
 intro a0 k
 have ih0 := transposallaw07_Make.mono_l k
 unfold transposallaw07_Make.f
 repeat' (with_reducible first | apply ih0 | apply unit_Units_uint16_78.mono | apply unit_Units_uint16_79.mono | apply LeO.refl | apply LeO.none | refine LeO.ite ?_ ?_ | refine LeO.bind ?_ (fun _ => ?_))
set_option maxHeartbeats 8000000 in
set_option maxRecDepth 100000 in
theorem transposallaw07_Make.calls (k : Nat) (A0 : Option Addr) (c0 : Nat) (l0 : List Int) (r : List Int) (w : World) (hr0 : Kd.C (Kd.int .u16) w A0 l0.length l0) (hc0 : l0.length ≤ c0) (h : transposallaw07_Make.f k l0 = some r) :
  Calls Tryz.prog 50 #[.slice A0 l0.length c0] w fun e w' => ∃ v0_ : Value, e = .returned (v0_) ∧ Kd.R (Kd.int .u16) 26 w' w.heap.size (fun _ => True) v0_ r ∧ Below w.heap.size w w' := by
 have HR0 := Aside0.mk hr0
 have HC0 := Aside0.mk hc0
 clear hr0 hc0
 have HB := Aside0.mk (Below.refl w.heap.size w)
 have H : (transposallaw07_Make.l0 k ([] : List Int) l0 (l0.length : Int) 0) = some r := h
 clear h
 have H' := Aside0.mk H
 clear H
 go_enter Tryz.func50, Tryz.ntmps50
 go_wp2
 go_loopg [3, 8] k (fun kq v3 v8 w' => ∃ (x3_1 : List Int) (x8_1 : Int), v8 = .int .i64 x8_1 ∧ Aside0 (transposallaw07_Make.l0 kq x3_1 l0 (l0.length : Int) x8_1 = some r) ∧ Aside0 (kq ≤ k) ∧ Aside0 (Kd.R (Kd.int .u16) 26 w' w.heap.size (fun _ => True) v3 x3_1) ∧ Aside0 (Below w.heap.size w w'))
 case atStart => exact ⟨(([] : List Int)), (0), eS, H', ⟨Nat.le_refl _⟩, ⟨by first | exact Kd.R_nil _ _ _ _ _ | exact Kd.N_nil _ _ _ _ _ | exact Kd.V_nil _ _ _ _ _ | exact Kd.Q_nil _ _ _ _ _ | exact Kd.S_nil _ _ _ _ _⟩, ⟨bB⟩⟩
 case round =>
  clear H'
  obtain ⟨x3_1, x8_1, rfl, HA, HK1, HO_3, HB⟩ := hrel
  cases gk with
  | zero => exact absurd HA.out (by simp [transposallaw07_Make.l0])
  | succ k1 =>
   have H := HA.out
   clear HA
   simp only [transposallaw07_Make.l0] at H
   by_cases c2 : x8_1 < (l0.length : Int)
   ·rw [if_pos c2] at H
    have c2b0 : decide (x8_1 < (l0.length : Int)) = true := decide_eq_true c2
    clear c2
    by_cases c3 : 0 ≤ x8_1
    ·rw [if_pos c3] at H
     have c3b0 : decide (0 ≤ x8_1) = true := decide_eq_true c3
     clear c3
     by_cases c4 : x8_1 < (l0.length : Int)
     ·rw [if_pos c4] at H
      have c4b0 : decide (x8_1 < (l0.length : Int)) = true := decide_eq_true c4
      clear c4
      replace H := Option.bind_eq_some_iff.mp H
      obtain ⟨t159, A50, H⟩ := H
      replace H : (if t159 = true then (transposallaw07_Make.l0 k1 x3_1 l0 (l0.length : Int) (wrap64 (x8_1 + 1))) else (if x3_1.length < 70368744177664 then (transposallaw07_Make.l0 k1 (x3_1 ++ [IntKind.u16.wrap (1 + (Int.tmod (rd l0 x8_1) 9))]) l0 (l0.length : Int) (wrap64 (x8_1 + 1))) else (none))) = some r := H
      have A5 := Aside0.mk A50
      clear A50
      by_cases c6 : t159 = true
      ·subst c6
       have H1 : (transposallaw07_Make.l0 k1 x3_1 l0 (l0.length : Int) (wrap64 (x8_1 + 1))) = some r := by rw [if_pos rfl] at H; exact H
       clear H
       have H := H1
       clear H1
       have H' := Aside0.mk H
       clear H
       have p158 : 0 ≤ (x8_1 : Int) := of_decide_eq_true aS
       have q158 : x8_1 < (l0.length : Int) := of_decide_eq_true aS
       obtain ⟨ad158, e158, hx158_0⟩ := Kd.at_int HR0.out x8_1 p158 q158
       cases e158
       replace hx158_0 := (HB.out.cell (World.block_lt_of_cell? w _ hx158_0)).trans hx158_0
       replace p158 := eq_true p158
       replace q158 := eq_true q158
       obtain ⟨Ao7, co7, eo7⟩ := Kd.R_slice HO_3.out
       subst eo7
       go_wp2_with (first | ((with_reducible refine gate_callee (f := 78) rfl ?_); refine goesL_ (some 17) rfl rfl Tryz.func78 (by kernel_rfl) rfl #[.slice Ao7 x3_1.length co7, .int .u16 (IntKind.u16.wrap (1 + (Int.tmod (rd l0 x8_1) 9)))] rfl eA ?_; (with_reducible refine (unit_Units_uint16_78.calls k1 _ _ x3_1 (IntKind.u16.wrap (1 + (Int.tmod (rd l0 x8_1) 9))) true _ ?side1 ?side2 A5.out).mono ?_); (case side1 => exact Kd.C_below ((Kd.R_reads' HO_3.out).2.2) oN); (case side2 => exact (Kd.R_reads' HO_3.out).2.1); rintro e w' ⟨rfl, ⟨nd, rfl⟩⟩; refine ⟨_, rfl, ?_⟩))
       go_roundg k1
       case measure => have := HK1.out; omega
       case rel => exact ⟨(x3_1), (wrap64 (x8_1 + 1)), eS, H', ⟨by have := HK1.out; omega⟩, ⟨Kd.R_below HO_3.out oN⟩, ⟨bB⟩⟩
      ·replace c6 := Bool.eq_false_iff.mpr c6
       subst c6
       have H1 : (if x3_1.length < 70368744177664 then (transposallaw07_Make.l0 k1 (x3_1 ++ [IntKind.u16.wrap (1 + (Int.tmod (rd l0 x8_1) 9))]) l0 (l0.length : Int) (wrap64 (x8_1 + 1))) else (none)) = some r := by rw [if_neg (show ¬ (false = true) by decide)] at H; exact H
       clear H
       have H := H1
       clear H1
       by_cases c8 : x3_1.length < 70368744177664
       ·rw [if_pos c8] at H
        have LMc8 := Aside0.mk c8
        clear c8
        obtain ⟨y160, hy160⟩ : ∃ y_ : List Int, y_ = (x3_1 ++ [IntKind.u16.wrap (1 + (Int.tmod (rd l0 x8_1) 9))]) := ⟨_, rfl⟩
        replace H : (transposallaw07_Make.l0 k1 y160 l0 (l0.length : Int) (wrap64 (x8_1 + 1))) = some r := by first | (rw [hy160]; with_reducible exact H) | (have H2_ := (Option.bind_some _ _).symm.trans H; rw [hy160]; with_reducible exact H2_) | (have H2_ := (Option.bind_some _ _).symm.trans H; with_reducible exact H2_) | with_reducible exact H | (rw [hy160]; exact H) | exact H
        have Ny160 := Aside0.mk hy160
        clear hy160
        have H' := Aside0.mk H
        clear H
        have p158 : 0 ≤ (x8_1 : Int) := of_decide_eq_true aS
        have q158 : x8_1 < (l0.length : Int) := of_decide_eq_true aS
        obtain ⟨ad158, e158, hx158_0⟩ := Kd.at_int HR0.out x8_1 p158 q158
        cases e158
        replace hx158_0 := (HB.out.cell (World.block_lt_of_cell? w _ hx158_0)).trans hx158_0
        replace p158 := eq_true p158
        replace q158 := eq_true q158
        obtain ⟨Ao9, co9, eo9⟩ := Kd.R_slice HO_3.out
        subst eo9
        go_wp2_with (first | ((with_reducible refine gate_callee (f := 78) rfl ?_); refine goesL_ (some 17) rfl rfl Tryz.func78 (by kernel_rfl) rfl #[.slice Ao9 x3_1.length co9, .int .u16 (IntKind.u16.wrap (1 + (Int.tmod (rd l0 x8_1) 9)))] rfl eA ?_; (with_reducible refine (unit_Units_uint16_78.calls k1 _ _ x3_1 (IntKind.u16.wrap (1 + (Int.tmod (rd l0 x8_1) 9))) false _ ?side1 ?side2 A5.out).mono ?_); (case side1 => exact Kd.C_below ((Kd.R_reads' HO_3.out).2.2) oN); (case side2 => exact (Kd.R_reads' HO_3.out).2.1); rintro e w' ⟨rfl, ⟨nd, rfl⟩⟩; refine ⟨_, rfl, ?_⟩) | ((with_reducible refine gate_builtin (b := .append) (xs := #[.tmp 19, .tmp 21]) rfl ?_); at_builtin; refine Kd.R_append (Kd.int .u16) (w0 := w) w.heap.size rfl (.tmp 19) (.tmp 21) 62 26 (.int .u16 0) 2 rfl Tryz.underlying62 info26 rfl (by decide) (by omega) (.slice Ao9 x3_1.length co9) x3_1 (IntKind.u16.wrap (1 + (Int.tmod (rd l0 x8_1) 9))) [.int .u16 (IntKind.u16.wrap (1 + (Int.tmod (rd l0 x8_1) 9)))] (fun _ => True) (fun _ => False) rfl rfl ?aP (fun _ hk => hk.elim) ?aF ?aO ?aB ?aS ?aL ?_; (case aP => exact rfl); (case aB => exact bB); (case aF => exact (fun _ _ => trivial)); (case aO => exact (Kd.R_below HO_3.out oN)); (case aS => exact (below_size bB)); (case aL => have := LMc8.out; omega); intro v161 w10 ho hb hg hat; rw [← Ny160.out] at ho; replace HB := Aside0.mk (hb); replace HO162 := Aside0.mk (ho); clear ho hb hg hat))
        go_roundg k1
        case measure => have := HK1.out; omega
        case rel => exact ⟨(y160), (wrap64 (x8_1 + 1)), eS, H', ⟨by have := HK1.out; omega⟩, ⟨Kd.R_below HO162.out oN⟩, ⟨bB⟩⟩
       ·rw [if_neg c8] at H
        exact absurd H (by simp)
     ·rw [if_neg c4] at H
      exact absurd H (by simp)
    ·rw [if_neg c3] at H
     exact absurd H (by simp)
   ·rw [if_neg c2] at H
    have c2b0 : decide (x8_1 < (l0.length : Int)) = false := decide_eq_false c2
    clear c2
    replace H := Option.bind_eq_some_iff.mp H
    obtain ⟨t163, A110, H⟩ := H
    replace H : (some t163) = some r := H
    have A11 := Aside0.mk A110
    clear A110
    obtain rfl := Option.some.inj H
    obtain ⟨Ao12, co12, eo12⟩ := Kd.R_slice HO_3.out
    subst eo12
    go_wp2_with (first | ((with_reducible refine gate_callee (f := 79) rfl ?_); refine goesL_ (some 25) rfl rfl Tryz.func79 (by kernel_rfl) rfl #[.slice Ao12 x3_1.length co12] rfl eA ?_; (with_reducible refine (unit_Units_uint16_79.calls k1 (fun k_ => some k_ = (.slice Ao12 x3_1.length co12 : Value).ownBlock) (.slice Ao12 x3_1.length co12) x3_1 t163 w _ ?side1 ?side2 A11.out).mono ?_); (case side1 => repeat (first | (with_reducible first | exact HB.out | apply below_alloc | apply pw_below_drewN | apply below_drew1) | exact HB.out)); (case side2 => exact Kd.R_tight rfl HO_3.out); rintro e w13 ⟨rfl, hy0, hb, hkp⟩; refine ⟨_, rfl, ?_⟩; replace HO_3 := Aside0.mk (Kd.R_reok rfl hy0 (fun k_ e_ => HO_3.out.1 k_ e_)); replace HB := Aside0.mk (hb); (try clear hb); (try clear hkp); (try clear hy0)))
    go_ret
    exact ⟨_, eR, by (with_reducible repeat (first | apply Kd.R_alloc | apply Kd.R_drewN | apply Kd.R_drew)); exact HO_3.out, bB⟩

/-! ### transposallaw08_Make: function 51 -/
def transposallaw08_Make.l0 : Nat → Int → List Int → Int → Int → List Int → Int → Option (List Int × Int)
 | 0, _, _, _, _, _, _ => none
 | k + 1, x5, x14, x15, x16, x169000, x169001 => if x16 < x15 then (if 0 ≤ x16 then (if x16 < (x14.length : Int) then (if x16 = 12 then (some (x169000, wrap32 (x5 + 31))) else (if x169000.length < 35184372088832 then (transposallaw08_Make.l0 k (wrap32 (x5 + (wrap32 (1 + (wrap32 (Int.tmod (rd x14 x16) 40)))))) x14 x15 (wrap64 (x16 + 1)) (x169000 ++ [wrap32 (x5 + (wrap32 (1 + (wrap32 (Int.tmod (rd x14 x16) 40)))))]) x169001) else (none))) else (none)) else (none)) else (some (x169000, wrap32 (x5 + 31)))
def transposallaw08_Make.f (k : Nat) (a0 : Int) (l1 : List Int) : Option (List Int × Int) := transposallaw08_Make.l0 k (wrap32 (a0)) l1 (l1.length : Int) 0 (([wrap32 (a0)] : List Int)) 0
theorem transposallaw08_Make.mono_l : ∀ k, (∀ y0 y1 y2 y3 y4 y5, LeO (transposallaw08_Make.l0 k y0 y1 y2 y3 y4 y5) (transposallaw08_Make.l0 (k + 1) y0 y1 y2 y3 y4 y5))
 | 0 => fun _ _ _ _ _ _ r h => by simp [transposallaw08_Make.l0] at h
 | k + 1 => by
  have ih0 := transposallaw08_Make.mono_l k
  ·intro y0 y1 y2 y3 y4 y5
   unfold transposallaw08_Make.l0
   repeat' (with_reducible first | apply ih0 | apply LeO.refl | apply LeO.none | refine LeO.ite ?_ ?_ | refine LeO.bind ?_ (fun _ => ?_))
theorem transposallaw08_Make.mono : ∀ a0 a1 k, LeO (transposallaw08_Make.f k a0 a1) (transposallaw08_Make.f (k + 1) a0 a1) := by
 intro a0 a1 k
 have ih0 := transposallaw08_Make.mono_l k
 unfold transposallaw08_Make.f
 repeat' (with_reducible first | apply ih0 | apply LeO.refl | apply LeO.none | refine LeO.ite ?_ ?_ | refine LeO.bind ?_ (fun _ => ?_))
set_option maxHeartbeats 8000000 in
set_option maxRecDepth 100000 in
theorem transposallaw08_Make.calls (k : Nat) (a0 : Int) (A1 : Option Addr) (c1 : Nat) (l1 : List Int) (r1 : List Int) (r2 : Int) (w : World) (hr1 : Kd.C (Kd.int .u8) w A1 l1.length l1) (hc1 : l1.length ≤ c1) (h : transposallaw08_Make.f k a0 l1 = some (r1, r2)) :
  Calls Tryz.prog 51 #[.int .i16 a0, .slice A1 l1.length c1] w fun e w' => ∃ v0_ : Value, e = .returned (.agg #[v0_, .int .i32 r2]) ∧ Kd.R (Kd.int .i32) 30 w' w.heap.size (fun _ => True) v0_ r1 ∧ Below w.heap.size w w' := by
 have hu65 := Tryz.underlying65
 have HR1 := Aside0.mk hr1
 have HC1 := Aside0.mk hc1
 clear hr1 hc1
 have HB := Aside0.mk (Below.refl w.heap.size w)
 have H : (transposallaw08_Make.l0 k (wrap32 (a0)) l1 (l1.length : Int) 0 (([wrap32 (a0)] : List Int)) 0) = some (r1, r2) := h
 clear h
 obtain ⟨y165, hy165⟩ : ∃ y_ : List Int, y_ = (([wrap32 (a0)] : List Int)) := ⟨_, rfl⟩
 replace H : (transposallaw08_Make.l0 k (wrap32 (a0)) l1 (l1.length : Int) 0 y165 0) = some (r1, r2) := by first | (rw [hy165]; with_reducible exact H) | (have H2_ := (Option.bind_some _ _).symm.trans H; rw [hy165]; with_reducible exact H2_) | (have H2_ := (Option.bind_some _ _).symm.trans H; with_reducible exact H2_) | with_reducible exact H | (rw [hy165]; exact H) | exact H
 have Ny165 := Aside0.mk hy165
 clear hy165
 have H' := Aside0.mk H
 clear H
 go_enter Tryz.func51, Tryz.ntmps51
 go_wp2_with (first | ((with_reducible refine gate_dst (N := 4) rfl ?_); refine box_event ?hg (N := 4) ?hd (cs := #[.slice none 0 0, .int .i32 0]) (t := 65) ?hr ?_; (case hd => rfl); (case hg => rfl); (case hr => first | (go_simp; done) | (go_simp; rfl)); intro gb164 hg w3 hbox hb; have n0_ := Aside0.mk (below_step bB hb); have n1_ := Aside0.mk (hbox); have n2_ := Aside0.mk ((by rw [hg]; exact (below_size bB) : w.heap.size ≤ gb164)); have n3_ := Aside0.mk ((by rw [hg]; exact (below_size bB) : w.heap.size ≤ gb164)); clear HB; have HB := n0_; have BK164 := n1_; have GW164 := n2_; have GE164 := n3_; clear n0_ n1_ n2_ n3_; clear hb hbox hg) | ((with_reducible refine gate_dst (N := 12) rfl ?_); refine Kd.R_lit (Kd.int .i32) _ 30 ?hg (N := 12) ?hd (xs := ([wrap32 (a0)] : List Int)) (inner := [.int .i32 (wrap32 (a0))]) (ok := fun _ => True) (okp := fun _ => True) ?hr ?hp (fun _ hk => hk) trivial (Below.refl _ _) (Nat.le_refl _) (by simp) ?_; (case hd => rfl); (case hg => rfl); (case hr => first | (go_simp; done) | (go_simp; rfl)); (case hp => exact (Reps.one (show Kd.M (Kd.int .i32) _ _ _ (wrap32 (a0)) [.int .i32 (wrap32 (a0))] from rfl) (Reps.none _ _))); intro v166 w4 ho5 hb hg_ hnew_; clear hg_ hnew_; (first | rw [← Ny165.out] at ho5 | (simp only [Int.reduceToNat] at ho5; rw [← Ny165.out] at ho5)); replace HO167 := Aside0.mk (Kd.R_lower ho5 (below_size bG)); replace BK164 := Aside0.mk (blk_below (blk_below BK164.out oN) hb); replace HB := Aside0.mk (below_step bG hb); clear hb ho5; obtain ⟨Ao6, co6, eo6⟩ := Kd.R_slice HO167.out; subst eo6) | ((with_reducible refine gate_dst (N := 6) rfl ?_); refine box_event ?hg (N := 6) ?hd (cs := #[.slice none 0 0, .int .i32 0]) (t := 65) ?hr ?_; (case hd => rfl); (case hg => rfl); (case hr => first | (go_simp; done) | (go_simp; rfl)); intro gb168 hg w7 hbox hb; have n0_ := Aside0.mk (Kd.R_below (Kd.R_below HO167.out oN) hb); have n1_ := Aside0.mk (blk_below (blk_below BK164.out oN) hb); have n2_ := Aside0.mk (below_step bG hb); have n3_ := Aside0.mk (hbox); have n4_ := Aside0.mk ((by rw [hg]; exact (below_size bG) : w.heap.size ≤ gb168)); have n5_ := Aside0.mk ((by rw [hg]; exact (below_size bG) : w.heap.size ≤ gb168)); have n6_ := Aside0.mk ((by rw [hg]; exact Nat.ne_of_lt (blk_lt (g := gb164) (o := .cells #[.slice none 0 0, .int .i32 0] 65 (0, 0)) (blk_below BK164.out oN)) : gb164 ≠ gb168)); have n7_ := Aside0.mk ((by rw [hg]; exact Nat.ne_of_gt (blk_lt (g := gb164) (o := .cells #[.slice none 0 0, .int .i32 0] 65 (0, 0)) (blk_below BK164.out oN)) : gb168 ≠ gb164)); clear HO167; clear BK164; clear HB; have HO167 := n0_; have BK164 := n1_; have HB := n2_; have BK168 := n3_; have GW168 := n4_; have GE168 := n5_; have NB164_168 := n6_; have NB168_164 := n7_; clear n0_ n1_ n2_ n3_ n4_ n5_ n6_ n7_; clear hb hbox hg; have hnb8 := NB168_164.out; have hnc8 := NB164_168.out; obtain ⟨hcz9_0, hcz9_1, hfz9_0, hfz9_1⟩ := cl2 BK168.out))
 go_loopg [5, 16] k (fun kq v5 v16 w' => ∃ (x5_1 : Int) (x16_1 : Int) (x169000_1 : List Int) (u169000 : Value), v5 = .int .i32 x5_1 ∧ v16 = .int .i64 x16_1 ∧ Aside0 (transposallaw08_Make.l0 kq x5_1 l1 (l1.length : Int) x16_1 x169000_1 0 = some (r1, r2)) ∧ Aside0 (kq ≤ k) ∧ Aside0 (Kd.R (Kd.int .i32) 30 w' w.heap.size (fun _ => True) u169000 x169000_1) ∧ Aside0 (w'.heap[gb164]? = some (.cells #[(.slice none 0 0), .int .i32 0] 65 (0, 0))) ∧ Aside0 (w'.heap[gb168]? = some (.cells #[u169000, .int .i32 0] 65 (0, 0))) ∧ Aside0 (Below w.heap.size w w'))
 case atStart => exact ⟨(wrap32 (a0)), (0), (y165), (.slice Ao6 y165.length co6), eS, eS, H', ⟨Nat.le_refl _⟩, ⟨by (with_reducible repeat (first | apply Kd.R_alloc | apply Kd.R_drewN | apply Kd.R_drew)); exact Kd.R_mono (Kd.R_far (p := ⟨gb168, 1, none⟩) (Kd.R_far (p := ⟨gb168, 0, none⟩) (Kd.R_types HO167.out BK168.out (by decide)) (fun _ hk => hk.2) (.slice Ao6 y165.length co6)) (fun _ hk => hk.2) (.int .i32 0)) (fun _ hk => trivial)⟩, ⟨by (with_reducible repeat (first | refine blk_drewN ?_ _ | refine blk_drew ?_ | refine blk_alloc ?_ _)); refine blk_far ?_ NB164_168.out _; (with_reducible repeat (first | refine blk_drewN ?_ _ | refine blk_drew ?_ | refine blk_alloc ?_ _)); refine blk_far ?_ NB164_168.out _; (with_reducible repeat (first | refine blk_drewN ?_ _ | refine blk_drew ?_ | refine blk_alloc ?_ _)); exact BK164.out⟩, ⟨by (with_reducible repeat (first | refine blk_drewN ?_ _ | refine blk_drew ?_ | refine blk_alloc ?_ _)); refine blk_put (cs := #[.slice Ao6 y165.length co6, .int .i32 0]) ?_ 1 _ rfl; (with_reducible repeat (first | refine blk_drewN ?_ _ | refine blk_drew ?_ | refine blk_alloc ?_ _)); refine blk_put (cs := #[.slice none 0 0, .int .i32 0]) ?_ 0 _ rfl; (with_reducible repeat (first | refine blk_drewN ?_ _ | refine blk_drew ?_ | refine blk_alloc ?_ _)); exact BK168.out⟩, ⟨bG⟩⟩
 case round =>
  clear H'
  try clear c1
  try clear p2
  try clear p3
  try clear c5
  try clear c8
  try clear hcz9_0
  try clear hcz9_1
  try clear hfz9_0
  try clear hfz9_1
  obtain ⟨x5_1, x16_1, x169000_1, u169000, rfl, rfl, HA, HK1, HO_169000, BK164, BK168, HB⟩ := hrel
  cases gk with
  | zero => exact absurd HA.out (by simp [transposallaw08_Make.l0])
  | succ k1 =>
   have H := HA.out
   clear HA
   simp only [transposallaw08_Make.l0] at H
   by_cases c10 : x16_1 < (l1.length : Int)
   ·rw [if_pos c10] at H
    have c10b0 : decide (x16_1 < (l1.length : Int)) = true := decide_eq_true c10
    clear c10
    by_cases c11 : 0 ≤ x16_1
    ·rw [if_pos c11] at H
     have c11b0 : decide (0 ≤ x16_1) = true := decide_eq_true c11
     clear c11
     by_cases c12 : x16_1 < (l1.length : Int)
     ·rw [if_pos c12] at H
      have c12b0 : decide (x16_1 < (l1.length : Int)) = true := decide_eq_true c12
      clear c12
      by_cases c13 : x16_1 = 12
      ·rw [if_pos c13] at H
       have c13b0 : (x16_1 == 12) = true := beq_iff_eq.mpr c13
       have c13b1 : (x16_1 != 12) = false := bne_eq_false_iff_eq.mpr c13
       clear c13
       simp only [Option.some.injEq, Prod.mk.injEq] at H
       obtain ⟨rfl, rfl⟩ := H
       have p169 : 0 ≤ (x16_1 : Int) := of_decide_eq_true aS
       have q169 : x16_1 < (l1.length : Int) := of_decide_eq_true aS
       obtain ⟨ad169, e169, hx169_0⟩ := Kd.at_int HR1.out x16_1 p169 q169
       cases e169
       replace hx169_0 := (HB.out.cell (World.block_lt_of_cell? w _ hx169_0)).trans hx169_0
       replace p169 := eq_true p169
       replace q169 := eq_true q169
       have hnb14 := NB168_164.out
       have hnc14 := NB164_168.out
       obtain ⟨hcz15_0, hcz15_1, hfz15_0, hfz15_1⟩ := cl2 BK168.out
       obtain ⟨Ao16, co16, eo16⟩ := Kd.R_slice HO_169000.out
       subst eo16
       obtain ⟨hcz17_0, hcz17_1, hfz17_0, hfz17_1⟩ := cl2 BK164.out
       go_wp2
       refine bodyPost_ret (results_cell_row rfl _ _ gb164 65 #[.slice Ao16 x169000_1.length co16, .int .i32 (wrap32 (x5_1 + 31))] (0, 0) _ rfl (by (with_reducible repeat (first | refine blk_drewN ?_ _ | refine blk_drew ?_ | refine blk_alloc ?_ _)); refine blk_put (cs := #[.slice Ao16 x169000_1.length co16, .int .i32 0]) ?_ 1 _ rfl; (with_reducible repeat (first | refine blk_drewN ?_ _ | refine blk_drew ?_ | refine blk_alloc ?_ _)); refine blk_put (cs := #[.slice none 0 0, .int .i32 0]) ?_ 0 _ rfl; (with_reducible repeat (first | refine blk_drewN ?_ _ | refine blk_drew ?_ | refine blk_alloc ?_ _)); refine blk_far ?_ NB164_168.out _; (with_reducible repeat (first | refine blk_drewN ?_ _ | refine blk_drew ?_ | refine blk_alloc ?_ _)); exact BK164.out) Tryz.underlying65 rfl (by kernel_rfl)) rfl ?_
       exact ⟨_, eR, by (with_reducible repeat (first | apply Kd.R_alloc | apply Kd.R_drewN | apply Kd.R_drew)); exact Kd.R_mono (Kd.R_far (p := ⟨gb164, 1, none⟩) (Kd.R_far (p := ⟨gb164, 0, none⟩) (Kd.R_far (p := ⟨gb168, 1, none⟩) (Kd.R_types (Kd.R_types HO_169000.out BK168.out (by decide)) BK164.out (by decide)) (fun _ hk => hk.1.2) (.int .i32 (wrap32 (x5_1 + 31)))) (fun _ hk => hk.2) (.slice Ao16 x169000_1.length co16)) (fun _ hk => hk.2) (.int .i32 (wrap32 (x5_1 + 31)))) (fun _ hk => trivial), bG⟩
      ·rw [if_neg c13] at H
       have c13b0 : (x16_1 == 12) = false := beq_eq_false_iff_ne.mpr c13
       have c13b1 : (x16_1 != 12) = true := bne_iff_ne.mpr c13
       by_cases c18 : x169000_1.length < 35184372088832
       ·rw [if_pos c18] at H
        have LMc18 := Aside0.mk c18
        clear c18
        obtain ⟨y170, hy170⟩ : ∃ y_ : List Int, y_ = (x169000_1 ++ [wrap32 (x5_1 + (wrap32 (1 + (wrap32 (Int.tmod (rd l1 x16_1) 40)))))]) := ⟨_, rfl⟩
        replace H : (transposallaw08_Make.l0 k1 (wrap32 (x5_1 + (wrap32 (1 + (wrap32 (Int.tmod (rd l1 x16_1) 40)))))) l1 (l1.length : Int) (wrap64 (x16_1 + 1)) y170 0) = some (r1, r2) := by first | (rw [hy170]; with_reducible exact H) | (have H2_ := (Option.bind_some _ _).symm.trans H; rw [hy170]; with_reducible exact H2_) | (have H2_ := (Option.bind_some _ _).symm.trans H; with_reducible exact H2_) | with_reducible exact H | (rw [hy170]; exact H) | exact H
        have Ny170 := Aside0.mk hy170
        clear hy170
        have H' := Aside0.mk H
        clear H
        have p169 : 0 ≤ (x16_1 : Int) := of_decide_eq_true aS
        have q169 : x16_1 < (l1.length : Int) := of_decide_eq_true aS
        obtain ⟨ad169, e169, hx169_0⟩ := Kd.at_int HR1.out x16_1 p169 q169
        cases e169
        replace hx169_0 := (HB.out.cell (World.block_lt_of_cell? w _ hx169_0)).trans hx169_0
        replace p169 := eq_true p169
        replace q169 := eq_true q169
        have hnb19 := NB168_164.out
        have hnc19 := NB164_168.out
        obtain ⟨hcz20_0, hcz20_1, hfz20_0, hfz20_1⟩ := cl2 BK168.out
        go_wp2_with (first | ((with_reducible refine gate_builtin (b := .append) (xs := #[.tmp 30, .tmp 32]) rfl ?_); at_builtin; refine Kd.R_append (Kd.int .i32) (w0 := w) w.heap.size rfl (.tmp 30) (.tmp 32) 63 30 (.int .i32 0) 4 rfl Tryz.underlying63 info30 rfl (by decide) (by omega) u169000 x169000_1 (wrap32 (x5_1 + (wrap32 (1 + (wrap32 (Int.tmod (rd l1 x16_1) 40)))))) [.int .i32 (wrap32 (x5_1 + (wrap32 (1 + (wrap32 (Int.tmod (rd l1 x16_1) 40))))))] (fun _ => True) (fun _ => False) rfl rfl ?aP (fun _ hk => hk.elim) ?aF ?aO ?aB ?aS ?aL ?_; (case aP => exact rfl); (case aB => exact bG); (case aF => exact (fun _ _ => trivial)); (case aO => exact (Kd.R_below HO_169000.out oN)); (case aS => exact (below_size bG)); (case aL => have := LMc18.out; omega); intro v171 w21 ho hb hg hat; rw [← Ny170.out] at ho; replace BK164 := Aside0.mk (blk_grown (blk_below BK164.out oN) hg (Kd.R_ne HO_169000.out BK164.out (by decide))); replace BK168 := Aside0.mk (blk_grown (blk_below BK168.out oN) hg (Kd.R_ne HO_169000.out BK168.out (by decide))); replace HB := Aside0.mk (hb); replace HO172 := Aside0.mk (ho); clear ho hb hg hat; obtain ⟨Ao22, co22, eo22⟩ := Kd.R_slice HO172.out; subst eo22; obtain ⟨hcz23_0, hcz23_1, hfz23_0, hfz23_1⟩ := cl2 BK168.out))
        go_roundg k1
        case measure => have := HK1.out; omega
        case rel => exact ⟨(wrap32 (x5_1 + (wrap32 (1 + (wrap32 (Int.tmod (rd l1 x16_1) 40)))))), (wrap64 (x16_1 + 1)), (y170), (.slice Ao22 y170.length co22), eS, eS, H', ⟨by have := HK1.out; omega⟩, ⟨by (with_reducible repeat (first | apply Kd.R_alloc | apply Kd.R_drewN | apply Kd.R_drew)); exact Kd.R_mono (Kd.R_far (p := ⟨gb168, 0, none⟩) (Kd.R_types HO172.out BK168.out (by decide)) (fun _ hk => hk.2) (.slice Ao22 y170.length co22)) (fun _ hk => trivial)⟩, ⟨by (with_reducible repeat (first | refine blk_drewN ?_ _ | refine blk_drew ?_ | refine blk_alloc ?_ _)); refine blk_far ?_ NB164_168.out _; (with_reducible repeat (first | refine blk_drewN ?_ _ | refine blk_drew ?_ | refine blk_alloc ?_ _)); exact BK164.out⟩, ⟨by (with_reducible repeat (first | refine blk_drewN ?_ _ | refine blk_drew ?_ | refine blk_alloc ?_ _)); refine blk_put (cs := #[u169000, .int .i32 0]) ?_ 0 _ rfl; (with_reducible repeat (first | refine blk_drewN ?_ _ | refine blk_drew ?_ | refine blk_alloc ?_ _)); exact BK168.out⟩, ⟨bG⟩⟩
       ·rw [if_neg c18] at H
        exact absurd H (by simp)
     ·rw [if_neg c12] at H
      exact absurd H (by simp)
    ·rw [if_neg c11] at H
     exact absurd H (by simp)
   ·rw [if_neg c10] at H
    have c10b0 : decide (x16_1 < (l1.length : Int)) = false := decide_eq_false c10
    clear c10
    simp only [Option.some.injEq, Prod.mk.injEq] at H
    obtain ⟨rfl, rfl⟩ := H
    have hnb24 := NB168_164.out
    have hnc24 := NB164_168.out
    obtain ⟨hcz25_0, hcz25_1, hfz25_0, hfz25_1⟩ := cl2 BK168.out
    obtain ⟨Ao26, co26, eo26⟩ := Kd.R_slice HO_169000.out
    subst eo26
    obtain ⟨hcz27_0, hcz27_1, hfz27_0, hfz27_1⟩ := cl2 BK164.out
    go_wp2
    refine bodyPost_ret (results_cell_row rfl _ _ gb164 65 #[.slice Ao26 x169000_1.length co26, .int .i32 (wrap32 (x5_1 + 31))] (0, 0) _ rfl (by (with_reducible repeat (first | refine blk_drewN ?_ _ | refine blk_drew ?_ | refine blk_alloc ?_ _)); refine blk_put (cs := #[.slice Ao26 x169000_1.length co26, .int .i32 0]) ?_ 1 _ rfl; (with_reducible repeat (first | refine blk_drewN ?_ _ | refine blk_drew ?_ | refine blk_alloc ?_ _)); refine blk_put (cs := #[.slice none 0 0, .int .i32 0]) ?_ 0 _ rfl; (with_reducible repeat (first | refine blk_drewN ?_ _ | refine blk_drew ?_ | refine blk_alloc ?_ _)); refine blk_far ?_ NB164_168.out _; (with_reducible repeat (first | refine blk_drewN ?_ _ | refine blk_drew ?_ | refine blk_alloc ?_ _)); exact BK164.out) Tryz.underlying65 rfl (by kernel_rfl)) rfl ?_
    exact ⟨_, eR, by (with_reducible repeat (first | apply Kd.R_alloc | apply Kd.R_drewN | apply Kd.R_drew)); exact Kd.R_mono (Kd.R_far (p := ⟨gb164, 1, none⟩) (Kd.R_far (p := ⟨gb164, 0, none⟩) (Kd.R_far (p := ⟨gb168, 1, none⟩) (Kd.R_types (Kd.R_types HO_169000.out BK168.out (by decide)) BK164.out (by decide)) (fun _ hk => hk.1.2) (.int .i32 (wrap32 (x5_1 + 31)))) (fun _ hk => hk.2) (.slice Ao26 x169000_1.length co26)) (fun _ hk => hk.2) (.int .i32 (wrap32 (x5_1 + 31)))) (fun _ hk => trivial), bG⟩

/-! ### transposallaw10_Frame: function 24 -/
def cashB : ByteArray := ⟨#[67, 97, 115, 104]⟩
def chartOr (ch : List S109) : List S109 := if ch.length = 0 then [⟨7, cashB, 0, 0⟩] else ch
def unitsOr (un : List Int) : List Int := if un.length = 0 then [5] else un
def frameF (k : Nat) (ac : List S139) (u0 : List Int) (fi : Int) (lg : List Int) : Option (List S109 × List Int × List Int × Int) :=
  (transposallaw06_Make.f k ac).bind fun ch => (transposallaw07_Make.f k u0).bind fun un => (transposallaw08_Make.f k fi lg).bind fun t => some (chartOr ch, unitsOr un, t.1, t.2)
theorem xqB5 {W W' : World} {g t : Nat} {p q r s u : Value} (h1 : W.heap[g]? = some (.cells #[p, q, r, s, u] t (0, 0))) (hb : Below W.heap.size W W') :
    W'.cell? ⟨g, 0, none⟩ = some p ∧ W'.cell? ⟨g, 1, none⟩ = some q ∧ W'.cell? ⟨g, 2, none⟩ = some r ∧ W'.cell? ⟨g, 3, none⟩ = some s :=
  ⟨(blk_cell (blk_below h1 hb) 0).trans rfl, (blk_cell (blk_below h1 hb) 1).trans rfl, (blk_cell (blk_below h1 hb) 2).trans rfl, (blk_cell (blk_below h1 hb) 3).trans rfl⟩
theorem xq2 (w : World) (o1 o2 : Obj) : ∃ W, W = (w.alloc o1).alloc o2 ∧ W.heap[w.heap.size]? = some o1 ∧ W.heap[w.heap.size + 1]? = some o2 ∧ Below w.heap.size w W ∧ W.heap.size = w.heap.size + 1 + 1 := by
  have s1 : (w.alloc o1).heap.size = w.heap.size + 1 := Array.size_push _
  have b2 := blk_new (w.alloc o1) o2
  rw [s1] at b2
  exact ⟨_, rfl, blk_alloc (blk_new w o1) o2, b2, below_alloc (below_alloc (Below.refl _ _) _) _, by rw [← s1]; exact Array.size_push _⟩
theorem xqLit1 {α : Type} {d : Kd α} {enc : α → List Value} (F : XMem.Flat d enc) (e : Nat) (W : World) (x : α) (cs : Array Value) (hcs : cs = (enc x).toArray) :
    d.R e (W.alloc (.cells cs e)) W.heap.size (fun _ => True) (.slice (some ⟨W.heap.size, 0, none⟩) 1 1) [x] := by
  subst hcs
  refine F.make ?_ (fun _ _ => trivial)
  have h2 := World.ownsRow_lit (base := W.heap.size) (e := e) (size := d.sz) W (enc x).toArray 1 (Nat.le_refl _) (by decide) (by simp [XMem.Flat.len F W x])
  simpa using h2
theorem xqR4 {α : Type} {d : Kd α} {e base : Nat} {ok : Nat → Prop} {w : World} {v : Value} {xs : List α} (h : d.R e w base ok v xs) {g t : Nat} {cs : Array Value} (hb : w.heap[g]? = some (.cells cs t (0, 0))) (ht : ∀ q, q ∈ e :: d.E → q ≠ t) (a b c f : Value) :
    d.R e ((((w.setCell ⟨g, 0, none⟩ a).setCell ⟨g, 1, none⟩ b).setCell ⟨g, 2, none⟩ c).setCell ⟨g, 3, none⟩ f) base ok v xs :=
  Kd.R_set (Kd.R_set (Kd.R_set (Kd.R_set h hb ht 0 a) (blk_set hb 0 a) ht 1 b) (blk_set (blk_set hb 0 a) 1 b) ht 2 c) (blk_set (blk_set (blk_set hb 0 a) 1 b) 2 c) ht 3 f
theorem xqRow {α : Type} {d : Kd α} {e base : Nat} {ok : Nat → Prop} {w : World} {v : Value} {xs : List α} (h : d.R e w base ok v xs) {g t : Nat} {cs : Array Value} (hb : w.heap[g]? = some (.cells cs t (0, 0))) (ht : ∀ q, q ∈ e :: d.E → q ≠ t) (cs' : Array Value) :
    d.R e (w.setRow g cs') base (fun _ => True) v xs :=
  Kd.R_mono (Kd.R_grown (Kd.R_types h hb ht) (XMem.setRow_grown w g cs') (fun _ hk e_ => hk.2 (Option.some.inj e_))) (fun _ _ => trivial)
set_option maxHeartbeats 8000000 in
set_option maxRecDepth 100000 in
theorem xqFrame.calls (k : Nat) (B0 : Option Addr) (d0 : Nat) (ac : List S139) (B1 : Option Addr) (d1 : Nat) (u0 : List Int) (fi : Int) (B3 : Option Addr) (d3 : Nat) (lg : List Int) (B4 : Option Addr) (n4 d4 : Nat) (ch : List S109) (un st : List Int) (en : Int) (w : World)
    (hr0 : Kd.C k139 w B0 ac.length ac) (hc0 : ac.length ≤ d0) (hr1 : Kd.C (Kd.int .u16) w B1 u0.length u0) (hc1 : u0.length ≤ d1) (hr3 : Kd.C (Kd.int .u8) w B3 lg.length lg) (hc3 : lg.length ≤ d3) (h : frameF k ac u0 fi lg = some (ch, un, st, en)) :
    Calls Tryz.prog 24 #[.agg #[.slice B0 ac.length d0, .slice B1 u0.length d1, .int .i16 fi, .slice B3 lg.length d3, .slice B4 n4 d4]] w
      fun e w' => ∃ v0_ v1_ v2_ : Value, e = .returned (.agg #[v0_, v1_, v2_, .int .i32 en]) ∧ Kd.R k109 109 w' w.heap.size (fun _ => True) v0_ ch ∧ Kd.R (Kd.int .u16) 26 w' w.heap.size (fun _ => True) v1_ un ∧ Kd.R (Kd.int .i32) 30 w' w.heap.size (fun _ => True) v2_ st ∧ Below w.heap.size w w' := by
  have hu1 := Tryz.underlying57
  have hu2 := Tryz.underlying67
  have hu3 := Tryz.underlying65
  have hu4 := Tryz.underlying109
  have HR0 := Aside0.mk hr0
  have HC0 := Aside0.mk hc0
  have HR1 := Aside0.mk hr1
  have HC1 := Aside0.mk hc1
  have HR3 := Aside0.mk hr3
  have HC3 := Aside0.mk hc3
  clear hr0 hc0 hr1 hc1 hr3 hc3
  unfold frameF at h
  obtain ⟨ch0, M6, h⟩ := Option.bind_eq_some_iff.mp h
  obtain ⟨un0, M7, h⟩ := Option.bind_eq_some_iff.mp h
  obtain ⟨⟨st0, en0⟩, M8, h⟩ := Option.bind_eq_some_iff.mp h
  have M6 := Aside0.mk M6
  have M7 := Aside0.mk M7
  have M8 := Aside0.mk M8
  have h := Option.some.inj h
  simp only [Prod.mk.injEq] at h
  obtain ⟨hch, hun, rfl, rfl⟩ := h
  have HCH := Aside0.mk hch
  have HUN := Aside0.mk hun
  rename_i M60 M70 M80 _ _
  clear hch hun M60 M70 M80
  go_enter Tryz.func24, Tryz.ntmps24
  go_upto_region 1 with fail
  obtain ⟨W, hW, B1, B2, HB, HS⟩ := xq2 w (Obj.cells #[.slice B0 ac.length d0, .slice B1 u0.length d1, .int .i16 fi, .slice B3 lg.length d3, .slice B4 n4 d4] 57) (Obj.cells #[.slice none 0 0, .slice none 0 0, .slice none 0 0, .int .i32 0] 67)
  rw [← hW]
  clear hW
  have HBB := Aside0.mk HB
  have HB1 := Aside0.mk B1
  have HB2 := Aside0.mk B2
  have HSS := Aside0.mk HS
  clear B1 B2 HB HS
  go_cut [3] (fun s3 wx => ∃ (g : Nat) (A0 : Option Addr) (c0 : Nat) (A1 : Option Addr) (c1 : Nat) (A2 : Option Addr) (c2 : Nat), s3 = .pointer (some ⟨g, 0, none⟩) ∧ Aside0 (wx.heap[g]? = some (.cells #[.slice A0 ch0.length c0, .slice A1 un0.length c1, .slice A2 st0.length c2, .int .i32 en0] 67 (0, 0))) ∧ Aside0 (Kd.R k109 109 wx W.heap.size (fun _ => True) (.slice A0 ch0.length c0) ch0) ∧ Aside0 (Kd.R (Kd.int .u16) 26 wx W.heap.size (fun _ => True) (.slice A1 un0.length c1) un0) ∧ Aside0 (Kd.R (Kd.int .i32) 30 wx W.heap.size (fun _ => True) (.slice A2 st0.length c2) st0) ∧ Aside0 (Below W.heap.size W wx) ∧ Aside0 (W.heap.size ≤ g))
  case first =>
    have HBw := Aside0.mk (Below.refl W.heap.size W)
    go_region_held3 (fun wx => wx.cell? ⟨w.heap.size, 0, none⟩ = some (.slice B0 ac.length d0) ∧ wx.cell? ⟨w.heap.size, 1, none⟩ = some (.slice B1 u0.length d1) ∧ wx.cell? ⟨w.heap.size, 2, none⟩ = some (.int .i16 fi) ∧ wx.cell? ⟨w.heap.size, 3, none⟩ = some (.slice B3 lg.length d3))
      (exact xqB5 HB1.out (by repeat (first | with_reducible exact HBw.out | with_reducible exact G1.out | with_reducible exact G2.out | with_reducible exact G3.out | with_reducible exact below_size HBw.out | with_reducible apply below_alloc | with_reducible apply below_drew | with_reducible refine below_set ?_ ?_)))
      (first
        | (go_at_call 49; (with_reducible refine (transposallaw06_Make.calls k B0 d0 ac ch0 _ ?sA HC0.out M6.out).mono ?_); (case sA => exact Kd.C_below HR0.out (below_step HBB.out oN)); rintro e w2 ⟨v6, rfl, o6, b6⟩; obtain ⟨A6, c6, rfl⟩ := Kd.R_slice o6; have O6 := Aside0.mk (Kd.R_lower (base' := W.heap.size) o6 (below_size (by repeat (first | with_reducible exact HBw.out | with_reducible apply below_alloc | with_reducible apply below_drew)))); (first | (have BK := Aside0.mk (blk_below (blk_drew (blk_new _ _)) b6)) | (have BK := Aside0.mk (blk_below (blk_new _ _) b6)) | skip); have m_ := Aside0.mk (below_step (by repeat (first | with_reducible exact HBw.out | with_reducible apply below_alloc | with_reducible apply below_drew)) b6); have G1 := Aside0.mk (below_size HBw.out); clear o6 b6 HBw; have HBw := m_; clear m_)
        | (go_at_call 50; (with_reducible refine (transposallaw07_Make.calls k B1 d1 u0 un0 _ ?sA HC1.out M7.out).mono ?_); (case sA => exact Kd.C_below HR1.out (below_step HBB.out (by repeat (first | with_reducible exact HBw.out | with_reducible apply below_alloc | with_reducible apply below_drew)))); rintro e w2 ⟨v9, rfl, o9, b9⟩; obtain ⟨A9, c9, rfl⟩ := Kd.R_slice o9; have O9 := Aside0.mk (Kd.R_lower (base' := W.heap.size) o9 (below_size (by repeat (first | with_reducible exact HBw.out | with_reducible apply below_alloc | with_reducible apply below_drew)))); (first | (have n0_ := Aside0.mk (blk_below (by repeat (first | with_reducible exact BK.out | with_reducible apply blk_alloc | with_reducible apply blk_drew)) b9); clear BK; have BK := n0_; clear n0_) | (have BK := Aside0.mk (blk_below (blk_drew (blk_new _ _)) b9)) | (have BK := Aside0.mk (blk_below (blk_new _ _) b9)) | skip); have n1_ := Aside0.mk (Kd.R_below (by repeat (first | with_reducible exact O6.out | with_reducible apply Kd.R_alloc | with_reducible apply Kd.R_drew)) b9); clear O6; have O6 := n1_; clear n1_; have m_ := Aside0.mk (below_step (by repeat (first | with_reducible exact HBw.out | with_reducible apply below_alloc | with_reducible apply below_drew)) b9); have G2 := Aside0.mk (below_size HBw.out); clear o9 b9 HBw; have HBw := m_; clear m_)
        | (go_at_call 51; (with_reducible refine (transposallaw08_Make.calls k fi B3 d3 lg st0 en0 _ ?sA HC3.out M8.out).mono ?_); (case sA => exact Kd.C_below HR3.out (below_step HBB.out (by repeat (first | with_reducible exact HBw.out | with_reducible apply below_alloc | with_reducible apply below_drew)))); rintro e w2 ⟨v14, rfl, o14, b14⟩; obtain ⟨A14, c14, rfl⟩ := Kd.R_slice o14; have O14 := Aside0.mk (Kd.R_lower (base' := W.heap.size) o14 (below_size (by repeat (first | with_reducible exact HBw.out | with_reducible apply below_alloc | with_reducible apply below_drew)))); (first | (have n0_ := Aside0.mk (blk_below (by repeat (first | with_reducible exact BK.out | with_reducible apply blk_alloc | with_reducible apply blk_drew)) b14); clear BK; have BK := n0_; clear n0_) | (have BK := Aside0.mk (blk_below (blk_drew (blk_new _ _)) b14)) | (have BK := Aside0.mk (blk_below (blk_new _ _) b14)) | skip); have n1_ := Aside0.mk (Kd.R_below (by repeat (first | with_reducible exact O6.out | with_reducible apply Kd.R_alloc | with_reducible apply Kd.R_drew)) b14); have n2_ := Aside0.mk (Kd.R_below (by repeat (first | with_reducible exact O9.out | with_reducible apply Kd.R_alloc | with_reducible apply Kd.R_drew)) b14); clear O6 O9; have O6 := n1_; have O9 := n2_; clear n1_ n2_; have m_ := Aside0.mk (below_step (by repeat (first | with_reducible exact HBw.out | with_reducible apply below_alloc | with_reducible apply below_drew)) b14); have G3 := Aside0.mk (below_size HBw.out); clear o14 b14 HBw; have HBw := m_; clear m_; (try (have hz0 := show World.cell? w2 ⟨_, 0, none⟩ = some (.slice none 0 0) from (blk_cell BK.out 0).trans rfl; have hz1 := show World.cell? w2 ⟨_, 1, none⟩ = some (.slice none 0 0) from (blk_cell BK.out 1).trans rfl; have hz2 := show World.cell? w2 ⟨_, 2, none⟩ = some (.slice none 0 0) from (blk_cell BK.out 2).trans rfl; have hz3 := show World.cell? w2 ⟨_, 3, none⟩ = some (.int .i32 0) from (blk_cell BK.out 3).trans rfl; have hf0 := blk_frozen BK.out 0; have hf1 := blk_frozen BK.out 1; have hf2 := blk_frozen BK.out 2; have hf3 := blk_frozen BK.out 3)))
        | fail)
    all_goals go_wp2_with fail
    all_goals go_meet
    all_goals first
      | exact ⟨_, _, _, _, _, _, _, rfl, ⟨blk_set (blk_set (blk_set (blk_set BK.out 0 _) 1 _) 2 _) 3 _⟩, ⟨xqR4 O6.out BK.out (by decide) _ _ _ _⟩, ⟨xqR4 O9.out BK.out (by decide) _ _ _ _⟩, ⟨xqR4 O14.out BK.out (by decide) _ _ _ _⟩, ⟨(by repeat (first | with_reducible exact HBw.out | with_reducible exact G1.out | with_reducible exact G2.out | with_reducible exact G3.out | with_reducible exact below_size HBw.out | with_reducible apply below_alloc | with_reducible apply below_drew | with_reducible refine below_set ?_ ?_))⟩, ⟨(by repeat (first | with_reducible exact HBw.out | with_reducible exact G1.out | with_reducible exact G2.out | with_reducible exact G3.out | with_reducible exact below_size HBw.out | with_reducible apply below_alloc | with_reducible apply below_drew | with_reducible refine below_set ?_ ?_))⟩⟩
      | exact ⟨_, _, _, _, _, _, _, rfl, ⟨blk_new _ _⟩, ⟨Kd.R_alloc O6.out _⟩, ⟨Kd.R_alloc O9.out _⟩, ⟨Kd.R_alloc O14.out _⟩, ⟨(by repeat (first | with_reducible exact HBw.out | with_reducible exact G1.out | with_reducible exact G2.out | with_reducible exact G3.out | with_reducible exact below_size HBw.out | with_reducible apply below_alloc | with_reducible apply below_drew | with_reducible refine below_set ?_ ?_))⟩, ⟨(by repeat (first | with_reducible exact HBw.out | with_reducible exact G1.out | with_reducible exact G2.out | with_reducible exact G3.out | with_reducible exact below_size HBw.out | with_reducible apply below_alloc | with_reducible apply below_drew | with_reducible refine below_set ?_ ?_))⟩⟩
      | (trace_state; fail)
  case rest =>
    obtain ⟨g, A0, c0, A1, c1, A2, c2, rfl, BK, O6, O9, O14, HBw, HGE⟩ := hcut
    clear HR0 HR1 HR3 HC0 HC1 HC3 HB1 M6 M7 M8
    have BK2 := Aside0.mk (blk_below HB2.out HBw.out)
    have HBz := Aside0.mk (below_step HBB.out HBw.out)
    have HGE' := Aside0.mk (show w.heap.size + 1 + 1 ≤ g by have := HGE.out; have := HSS.out; omega)
    have o6 := Aside0.mk (Kd.R_lower (base' := w.heap.size) O6.out (below_size HBB.out))
    have o9 := Aside0.mk (Kd.R_lower (base' := w.heap.size) O9.out (below_size HBB.out))
    have o14 := Aside0.mk (Kd.R_lower (base' := w.heap.size) O14.out (below_size HBB.out))
    clear HB2 HBw HBB HGE HSS O6 O9 O14
    have hz0 := show wc.cell? ⟨g, 0, none⟩ = some (.slice A0 ch0.length c0) from (blk_cell BK.out 0).trans rfl
    go_upto_if 19 with fail
    clear hz0
    go_cut [] (fun wx => ∃ (A0 : Option Addr) (c0 : Nat), Aside0 (wx.heap[g]? = some (.cells #[.slice A0 ch.length c0, .slice A1 un0.length c1, .slice A2 st0.length c2, .int .i32 en0] 67 (0, 0))) ∧ Aside0 (Kd.R k109 109 wx w.heap.size (fun _ => True) (.slice A0 ch.length c0) ch) ∧ Aside0 (Kd.R (Kd.int .u16) 26 wx w.heap.size (fun _ => True) (.slice A1 un0.length c1) un0) ∧ Aside0 (Kd.R (Kd.int .i32) 30 wx w.heap.size (fun _ => True) (.slice A2 st0.length c2) st0) ∧ Aside0 (wx.heap[w.heap.size + 1]? = some (.cells #[.slice none 0 0, .slice none 0 0, .slice none 0 0, .int .i32 0] 67 (0, 0))) ∧ Aside0 (Below w.heap.size w wx))
    case first =>
      by_cases hz : ch0.length = 0
      · have hb : ((ch0.length : Int) == 0) = true := beq_iff_eq.mpr (by omega)
        have HE := Aside0.mk (show ch = [⟨7, cashB, 0, 0⟩] by rw [← HCH.out]; exact if_pos hz)
        clear hz
        have hf0 := blk_frozen (blk_alloc BK.out (Obj.cells #[.int .u32 7, .string ⟨#[67, 97, 115, 104]⟩, .int .u8 0, .int .u32 0] 109)) 0
        have hz0 := show (wc.alloc (Obj.cells #[.int .u32 7, .string ⟨#[67, 97, 115, 104]⟩, .int .u8 0, .int .u32 0] 109)).cell? ⟨g, 0, none⟩ = some (.slice A0 ch0.length c0) from (blk_cell (blk_alloc BK.out _) 0).trans rfl
        go_wp2_with fail
        go_meet
        rw [HE.out]
        refine ⟨_, _, ⟨blk_set (blk_alloc BK.out _) 0 _⟩, ⟨Kd.R_set (Kd.R_lower (xqLit1 flat109 109 wc (⟨7, cashB, 0, 0⟩ : S109) _ rfl) (below_size HBz.out)) (blk_alloc BK.out _) (by decide) 0 _⟩, ⟨Kd.R_set (Kd.R_alloc o9.out _) (blk_alloc BK.out _) (by decide) 0 _⟩, ⟨Kd.R_set (Kd.R_alloc o14.out _) (blk_alloc BK.out _) (by decide) 0 _⟩, ⟨blk_far (blk_alloc BK2.out _) (show w.heap.size + 1 ≠ g by have := HGE'.out; omega) _⟩, ⟨below_set (below_alloc HBz.out _) (by have := HGE'.out; omega)⟩⟩
      · have hb : ((ch0.length : Int) == 0) = false := beq_eq_false_iff_ne.mpr (by omega)
        have HE := Aside0.mk (show ch = ch0 by rw [← HCH.out]; exact if_neg hz)
        clear hz
        go_wp2_with fail
        go_meet
        rw [HE.out]
        exact ⟨A0, c0, BK, o6, o9, o14, BK2, HBz⟩
    case rest =>
      clear BK o6 o9 o14 BK2 HBz
      obtain ⟨A0, c0, BK, o6, o9, o14, BK2, HBz⟩ := hcut
      have hz1 := show wc.cell? ⟨g, 1, none⟩ = some (.slice A1 un0.length c1) from (blk_cell BK.out 1).trans rfl
      go_upto_if 26 with fail
      clear hz1
      go_cut [] (fun wx => ∃ (A1 : Option Addr) (c1 : Nat), Aside0 (wx.heap[g]? = some (.cells #[.slice A0 ch.length c0, .slice A1 un.length c1, .slice A2 st0.length c2, .int .i32 en0] 67 (0, 0))) ∧ Aside0 (Kd.R k109 109 wx w.heap.size (fun _ => True) (.slice A0 ch.length c0) ch) ∧ Aside0 (Kd.R (Kd.int .u16) 26 wx w.heap.size (fun _ => True) (.slice A1 un.length c1) un) ∧ Aside0 (Kd.R (Kd.int .i32) 30 wx w.heap.size (fun _ => True) (.slice A2 st0.length c2) st0) ∧ Aside0 (wx.heap[w.heap.size + 1]? = some (.cells #[.slice none 0 0, .slice none 0 0, .slice none 0 0, .int .i32 0] 67 (0, 0))) ∧ Aside0 (Below w.heap.size w wx))
      case first =>
        by_cases hz : un0.length = 0
        · have hb : ((un0.length : Int) == 0) = true := beq_iff_eq.mpr (by omega)
          have HE := Aside0.mk (show un = [5] by rw [← HUN.out]; exact if_pos hz)
          clear hz
          have hf0 := blk_frozen (blk_alloc BK.out (Obj.cells #[.int .u16 5] 26)) 1
          have hz0 := show (wc.alloc (Obj.cells #[.int .u16 5] 26)).cell? ⟨g, 1, none⟩ = some (.slice A1 un0.length c1) from (blk_cell (blk_alloc BK.out _) 1).trans rfl
          go_wp2_with fail
          go_meet
          rw [HE.out]
          exact ⟨_, _, ⟨blk_set (blk_alloc BK.out _) 1 _⟩, ⟨Kd.R_set (Kd.R_alloc o6.out _) (blk_alloc BK.out _) (by decide) 1 _⟩, ⟨Kd.R_set (Kd.R_lower (xqLit1 (XMem.flatInt .u16) 26 wc (5 : Int) _ rfl) (below_size HBz.out)) (blk_alloc BK.out _) (by decide) 1 _⟩, ⟨Kd.R_set (Kd.R_alloc o14.out _) (blk_alloc BK.out _) (by decide) 1 _⟩, ⟨blk_far (blk_alloc BK2.out _) (show w.heap.size + 1 ≠ g by have := HGE'.out; omega) _⟩, ⟨below_set (below_alloc HBz.out _) (by have := HGE'.out; omega)⟩⟩
        · have hb : ((un0.length : Int) == 0) = false := beq_eq_false_iff_ne.mpr (by omega)
          have HE := Aside0.mk (show un = un0 by rw [← HUN.out]; exact if_neg hz)
          clear hz
          go_wp2_with fail
          go_meet
          rw [HE.out]
          exact ⟨A1, c1, BK, o6, o9, o14, BK2, HBz⟩
      case rest =>
        clear BK o6 o9 o14 BK2 HBz
        obtain ⟨A1, c1, BK, o6, o9, o14, BK2, HBz⟩ := hcut
        have hl4 : (Tryz.prog.info? 67).map (·.size) = some 4 := by kernel_rfl
        have HST := Aside0.mk (XMem.storeAt_run (P := Tryz.prog) wc (w.heap.size + 1) 0 #[.slice none 0 0, .slice none 0 0, .slice none 0 0, .int .i32 0] 67 BK2.out 67 #[.slice A0 ch.length c0, .slice A1 un.length c1, .slice A2 st0.length c2, .int .i32 en0] hl4 (Nat.le_refl 4) (by intro v hv; simp at hv; rcases hv with rfl | rfl | rfl | rfl <;> rfl))
        have X5 := XBits.setRow_at wc (w.heap.size + 1) #[.slice A0 ch.length c0, .slice A1 un.length c1, .slice A2 st0.length c2, .int .i32 en0] BK2.out
        have HI := Aside0.mk hl4
        clear hl4
        go_wp2_with (first
          | (refine wpList_load_row rfl 67 (.tmp 3) rfl g rfl _ _ _ _ BK.out Tryz.underlying67 rfl HI.out ?_)
          | (refine XMem.wpList_store rfl (ty := 67) (x := .tmp 2) (y := .tmp 29) rfl rfl rfl rfl HST.out ?_)
          | fail)
        refine bodyPost_ret (results_cell_row rfl _ _ (w.heap.size + 1) _ _ _ _ rfl X5 Tryz.underlying67 rfl HI.out) rfl ?_
        exact ⟨_, _, _, rfl, xqRow o6.out BK2.out (by decide) _, xqRow o9.out BK2.out (by decide) _, xqRow o14.out BK2.out (by decide) _, Below.grown HBz.out (XMem.setRow_grown _ _ _) (below_size HBz.out) (fun j_ hj_ => by cases hj_; omega)⟩
def transposallaw10_Frame.f (k : Nat) (l0_0 : List (S139)) (l0_1 : List Int) (a0_2 : Int) (l0_3 : List Int) (_l0_4 : List (S103)) : Option (List (S109) × List Int × List Int × Int) := frameF k l0_0 l0_1 a0_2 l0_3
theorem transposallaw10_Frame.mono : ∀ a0 a1 a2 a3 a4 k, LeO (transposallaw10_Frame.f k a0 a1 a2 a3 a4) (transposallaw10_Frame.f (k + 1) a0 a1 a2 a3 a4) := by
  intro a0 a1 a2 a3 a4 k
  unfold transposallaw10_Frame.f frameF
  exact LeO.bind (transposallaw06_Make.mono _ _) (fun _ => LeO.bind (transposallaw07_Make.mono _ _) (fun _ => LeO.bind (transposallaw08_Make.mono _ _ _) (fun _ => LeO.refl _)))
theorem transposallaw10_Frame.calls (k : Nat) (A0_0 : Option Addr) (c0_0 : Nat) (l0_0 : List (S139)) (A0_1 : Option Addr) (c0_1 : Nat) (l0_1 : List Int) (a0_2 : Int) (A0_3 : Option Addr) (c0_3 : Nat) (l0_3 : List Int) (A0_4 : Option Addr) (c0_4 : Nat) (l0_4 : List (S103)) (r1 : List (S109)) (r2 : List Int) (r3 : List Int) (r4 : Int) (w : World) (hr0_0 : Kd.C k139 w A0_0 l0_0.length l0_0) (hc0_0 : l0_0.length ≤ c0_0) (hr0_1 : Kd.C (Kd.int .u16) w A0_1 l0_1.length l0_1) (hc0_1 : l0_1.length ≤ c0_1) (hr0_3 : Kd.C (Kd.int .u8) w A0_3 l0_3.length l0_3) (hc0_3 : l0_3.length ≤ c0_3) (hr0_4 : Kd.C k103 w A0_4 l0_4.length l0_4) (hc0_4 : l0_4.length ≤ c0_4) (h : transposallaw10_Frame.f k l0_0 l0_1 a0_2 l0_3 l0_4 = some (r1, r2, r3, r4)) :
    Calls Tryz.prog 24 #[.agg #[.slice A0_0 l0_0.length c0_0, .slice A0_1 l0_1.length c0_1, .int .i16 a0_2, .slice A0_3 l0_3.length c0_3, .slice A0_4 l0_4.length c0_4]] w fun e w' => ∃ v0_ v1_ v2_ : Value, e = .returned (.agg #[v0_, v1_, v2_, .int .i32 r4]) ∧ Kd.R k109 109 w' w.heap.size (fun _ => True) v0_ r1 ∧ Kd.R (Kd.int .u16) 26 w' w.heap.size (fun _ => True) v1_ r2 ∧ Kd.R (Kd.int .i32) 30 w' w.heap.size (fun _ => True) v2_ r3 ∧ Below w.heap.size w w' :=
  xqFrame.calls k A0_0 c0_0 l0_0 A0_1 c0_1 l0_1 a0_2 A0_3 c0_3 l0_3 A0_4 l0_4.length c0_4 r1 r2 r3 r4 w hr0_0 hc0_0 hr0_1 hc0_1 hr0_3 hc0_3 h

/-! ### transposallaw10_L_line: function 25 -/
theorem xq3 (w : World) (o1 o2 o3 : Obj) : ∃ W, W = ((w.alloc o1).alloc o2).alloc o3 ∧ W.heap[w.heap.size]? = some o1 ∧ W.heap[w.heap.size + 1]? = some o2 ∧ W.heap[w.heap.size + 1 + 1]? = some o3 ∧ Below w.heap.size w W ∧ W.heap.size = w.heap.size + 1 + 1 + 1 := by
  have s1 : (w.alloc o1).heap.size = w.heap.size + 1 := Array.size_push _
  have s2 : ((w.alloc o1).alloc o2).heap.size = w.heap.size + 1 + 1 := by rw [← s1]; exact Array.size_push _
  have b2 := blk_new (w.alloc o1) o2
  have b3 := blk_new ((w.alloc o1).alloc o2) o3
  rw [s1] at b2
  rw [s2] at b3
  exact ⟨_, rfl, blk_alloc (blk_alloc (blk_new w o1) o2) o3, blk_alloc b2 o3, b3, below_alloc (below_alloc (below_alloc (Below.refl _ _) _) _) _, by rw [← s2]; exact Array.size_push _⟩
/-- A line by small numbers, of a chart, of entities. -/
def lineF (ch : List S109) (un : List Int) (x : S59) : S28 :=
  ⟨(ch.getD (x.f0.toNat % ch.length) z109).f0, un.getD (x.f1.toNat % un.length) 0, if x.f2 % 2 = 1 then un.getD ((x.f2 / 2).toNat % un.length) 0 else 0, x.f3⟩
def u8In (n : Int) : Prop := 0 ≤ n ∧ n ≤ 255
theorem xqIdx {a : Int} {n : Nat} (h0 : 0 ≤ a) (hn : 0 < n) : Int.tmod a (n : Int) = ((a.toNat % n : Nat) : Int) ∧ a.toNat % n < n := by
  obtain ⟨m, rfl⟩ := Int.eq_ofNat_of_zero_le h0
  exact ⟨by rw [Int.tmod_eq_emod_of_nonneg (Int.natCast_nonneg _)]; rfl, Nat.mod_lt _ hn⟩
theorem xqW {a : Int} (h : u8In a) : IntKind.i64.wrap a = a := by
  unfold u8In at h
  simp only [IntKind.wrap, IntKind.signed, IntKind.bits]
  simp
  omega
theorem xqS7 {W W' : World} {g h t u : Nat} {p q r s f1 f2 f3 f4 y z : Value} {ay az : Addr} (h1 : W.heap[g]? = some (.cells #[p, q, r, s] t (0, 0))) (h2 : W.heap[h]? = some (.cells #[f1, f2, f3, f4] u (0, 0))) (h3 : W.cell? ay = some y) (h4 : W.cell? az = some z) (hb : Below W.heap.size W W') :
    W'.cell? ⟨g, 0, none⟩ = some p ∧ W'.cell? ⟨g, 1, none⟩ = some q ∧ W'.cell? ⟨g, 3, none⟩ = some s ∧ W'.cell? ⟨h, 0, none⟩ = some f1 ∧ W'.cell? ⟨h, 1, none⟩ = some f2 ∧ W'.cell? ay = some y ∧ W'.cell? az = some z :=
  ⟨(blk_cell (blk_below h1 hb) 0).trans rfl, (blk_cell (blk_below h1 hb) 1).trans rfl, (blk_cell (blk_below h1 hb) 3).trans rfl, (blk_cell (blk_below h2 hb) 0).trans rfl, (blk_cell (blk_below h2 hb) 1).trans rfl, pw_cell_below hb h3, pw_cell_below hb h4⟩
theorem xqS3 {V V' : World} {B p q t u : Nat} {a0 a1 a2 a3 b0 b1 b2 b3 z : Value} {az : Addr} (h1 : V.heap[p]? = some (.cells #[a0, a1, a2, a3] t (0, 0))) (hp : p < B) (h2 : V.heap[q]? = some (.cells #[b0, b1, b2, b3] u (0, 0))) (hq : q < B) (h3 : V.cell? az = some z) (hz : az.block < B) (hb : Below B V V') :
    V'.cell? ⟨p, 2, none⟩ = some a2 ∧ V'.cell? ⟨q, 1, none⟩ = some b1 ∧ V'.cell? az = some z :=
  ⟨(hb.cell (p := ⟨p, 2, none⟩) hp).trans ((blk_cell h1 2).trans rfl), (hb.cell (p := ⟨q, 1, none⟩) hq).trans ((blk_cell h2 1).trans rfl), (hb.cell hz).trans h3⟩
set_option maxHeartbeats 8000000 in
set_option maxRecDepth 100000 in
theorem xqLine.calls (x : S59) (A0 : Option Addr) (c0 : Nat) (ch : List S109) (A1 : Option Addr) (c1 : Nat) (un : List Int) (A2 : Option Addr) (n2 c2 : Nat) (e2 : Int) (w : World)
    (hr0 : Kd.C k109 w A0 ch.length ch) (hr1 : Kd.C (Kd.int .u16) w A1 un.length un) (h0 : 0 < ch.length) (h1 : 0 < un.length) (hx : u8In x.f0 ∧ u8In x.f1 ∧ u8In x.f2) :
    Calls Tryz.prog 25 #[.agg #[.int .u8 x.f0, .int .u8 x.f1, .int .u8 x.f2, .int .i64 x.f3], .agg #[.slice A0 ch.length c0, .slice A1 un.length c1, .slice A2 n2 c2, .int .i32 e2]] w
      fun e w' => e = .returned (.agg #[.int .u32 (lineF ch un x).f0, .int .u16 (lineF ch un x).f1, .int .u16 (lineF ch un x).f2, .int .i64 (lineF ch un x).f3]) ∧ Below w.heap.size w w' := by
  have hu1 := Tryz.underlying28
  have hu2 := Tryz.underlying67
  have hu3 := Tryz.underlying59
  obtain ⟨hx0, hx1, hx2⟩ := hx
  have hw0 := xqW hx0
  have hw1 := xqW hx1
  obtain ⟨t0, b0⟩ := xqIdx hx0.1 h0
  obtain ⟨t1, b1⟩ := xqIdx hx1.1 h1
  obtain ⟨i, hi⟩ : ∃ i, i = x.f0.toNat % ch.length := ⟨_, rfl⟩
  obtain ⟨j, hj⟩ : ∃ j, j = x.f1.toNat % un.length := ⟨_, rfl⟩
  rw [← hi] at t0 b0
  rw [← hj] at t1 b1
  obtain ⟨ad, rfl, hc0, hc1, hc2, hc3⟩ := at_T109 hr0 (i : Int) (by omega) (by omega)
  obtain ⟨bd, rfl, hd⟩ := Kd.at_int hr1 (j : Int) (by omega) (by omega)
  have HIx := Aside0.mk hi
  have HJ := Aside0.mk hj
  have HR1 := Aside0.mk hr1
  have HH1 := Aside0.mk h1
  have HH0 := Aside0.mk h0
  have HX2 := Aside0.mk hx2
  clear hc1 hc2 hc3 hi hj hr0 hr1 hx0 hx1 hx2 h1 h0
  rw [Int.toNat_natCast] at hc0 hd
  obtain ⟨a, ha⟩ : ∃ a, a = (rd_T109 ch (i : Int)).f0 := ⟨_, rfl⟩
  obtain ⟨b, hb⟩ : ∃ b, b = rd un (j : Int) := ⟨_, rfl⟩
  rw [← ha] at hc0
  rw [← hb] at hd
  have HA := Aside0.mk ha
  have HB' := Aside0.mk hb
  clear ha hb
  have q0 : (0 : Int) ≤ (i : Int) := by omega
  have q1 : (i : Int) < (ch.length : Int) := by omega
  have q2 : (0 : Int) ≤ (j : Int) := by omega
  have q3 : (j : Int) < (un.length : Int) := by omega
  have z0 : (ch.length = 0) = False := eq_false (by have := HH0.out; omega)
  have z1 : (un.length = 0) = False := eq_false (by have := HH1.out; omega)
  have z2 : ((ch.length : Int) == 0) = false := beq_eq_false_iff_ne.mpr (by have := HH0.out; omega)
  have z3 : ((un.length : Int) == 0) = false := beq_eq_false_iff_ne.mpr (by have := HH1.out; omega)
  go_enter Tryz.func25, Tryz.ntmps25
  go_upto_region 1 with fail
  obtain ⟨W, hW, B1, B2, B3, HB, HS⟩ := xq3 w (Obj.cells #[.int .u8 x.f0, .int .u8 x.f1, .int .u8 x.f2, .int .i64 x.f3] 59) (Obj.cells #[.slice (some ad) ch.length c0, .slice (some bd) un.length c1, .slice A2 n2 c2, .int .i32 e2] 67) (Obj.cells #[.int .u32 0, .int .u16 0, .int .u16 0, .int .i64 0] 28)
  rw [← hW]
  clear hW
  have HBB := Aside0.mk HB
  have HC0 := Aside0.mk (pw_cell_below HB hc0)
  have HD := Aside0.mk (pw_cell_below HB hd)
  have HB1 := Aside0.mk B1
  have HB2 := Aside0.mk B2
  have HB3 := Aside0.mk B3
  have HSS := Aside0.mk HS
  clear hc0 hd B1 B2 B3 HB HS
  go_region_held3 (fun wx => wx.cell? ⟨w.heap.size, 0, none⟩ = some (.int .u8 x.f0) ∧ wx.cell? ⟨w.heap.size, 1, none⟩ = some (.int .u8 x.f1) ∧ wx.cell? ⟨w.heap.size, 3, none⟩ = some (.int .i64 x.f3) ∧ wx.cell? ⟨w.heap.size + 1, 0, none⟩ = some (.slice (some ad) ch.length c0) ∧ wx.cell? ⟨w.heap.size + 1, 1, none⟩ = some (.slice (some bd) un.length c1) ∧ wx.cell? (ad.add (i * 4)) = some (.int .u32 a) ∧ wx.cell? (bd.add j) = some (.int .u16 b))
    (exact xqS7 HB1.out HB2.out HC0.out HD.out oN) (fail)
  have HV := Aside0.mk (below_drew (below_alloc HBB.out (Obj.cells #[.int .u32 a, .int .u16 b, .int .u16 0, .int .i64 x.f3] 28)))
  have V1 := Aside0.mk (blk_drew (blk_alloc HB1.out (Obj.cells #[.int .u32 a, .int .u16 b, .int .u16 0, .int .i64 x.f3] 28)))
  have V2 := Aside0.mk (blk_drew (blk_alloc HB2.out (Obj.cells #[.int .u32 a, .int .u16 b, .int .u16 0, .int .i64 x.f3] 28)))
  have V3 := Aside0.mk (blk_drew (blk_alloc HB3.out (Obj.cells #[.int .u32 a, .int .u16 b, .int .u16 0, .int .i64 x.f3] 28)))
  have V4 := Aside0.mk (blk_drew (blk_new W (Obj.cells #[.int .u32 a, .int .u16 b, .int .u16 0, .int .i64 x.f3] 28)))
  obtain ⟨g, hg⟩ : ∃ g, g = W.heap.size := ⟨_, rfl⟩
  have VG := Aside0.mk (show w.heap.size + 1 + 1 < g by have := HSS.out; omega)
  have HRU := Aside0.mk (Kd.C_below HR1.out HV.out)
  have HDL0 := Aside0.mk (show bd.block < g by have h9 := World.block_lt_of_cell? _ _ HD.out; rw [add_block] at h9; omega)
  rw [← hg] at V4 ⊢
  clear hg HBB HC0 HD HB1 HB2 HB3 HSS HR1 hw0 hw1 t0 t1 z0 z2 q0 q1 q2 q3
  generalize (W.alloc (Obj.cells #[.int .u32 a, .int .u16 b, .int .u16 0, .int .i64 x.f3] 28)).drew = V at HV V1 V2 V3 V4 HRU ⊢
  have hv2 : V.cell? ⟨w.heap.size, 2, none⟩ = some (.int .u8 x.f2) := (blk_cell V1.out 2).trans rfl
  have e0 : Int.tmod x.f2 2 = x.f2 % 2 := Int.tmod_eq_emod_of_nonneg HX2.out.1
  by_cases hodd : x.f2 % 2 = 1
  · have o1 : (x.f2 % 2 == 1) = true := beq_iff_eq.mpr hodd
    obtain ⟨t2, b2⟩ := xqIdx (a := x.f2 / 2) (n := un.length) (by have := HX2.out.1; omega) HH1.out
    obtain ⟨m, hm⟩ : ∃ m, m = (x.f2 / 2).toNat % un.length := ⟨_, rfl⟩
    rw [← hm] at t2 b2
    obtain ⟨bd', e_, hd⟩ := Kd.at_int HRU.out (m : Int) (by omega) (by omega)
    injection e_ with e_
    subst e_
    rw [Int.toNat_natCast] at hd
    obtain ⟨d, hd2⟩ : ∃ d, d = rd un (m : Int) := ⟨_, rfl⟩
    rw [← hd2] at hd
    have HM := Aside0.mk hm
    have HD2 := Aside0.mk hd2
    have HOD := Aside0.mk hodd
    have e3 : Int.tdiv x.f2 2 = x.f2 / 2 := Int.tdiv_eq_ediv_of_nonneg HX2.out.1
    have e4 : IntKind.i64.wrap (x.f2 / 2) = x.f2 / 2 := xqW (by have := HX2.out; unfold u8In at this ⊢; omega)
    have e5 : IntKind.u8.wrap (x.f2 / 2) = x.f2 / 2 := by have := HX2.out; unfold u8In at this; show (x.f2 / 2) % 256 = _; omega
    have q0 : (0 : Int) ≤ (m : Int) := by omega
    have q1 : (m : Int) < (un.length : Int) := by omega
    have hf4 := blk_frozen V4.out 2
    clear hm hd2 hodd b2
    have hg4 : V.drew.cell? ⟨g, 2, none⟩ = some (.int .u16 0) := (blk_cell (blk_drew V4.out) 2).trans rfl
    have hg5 : V.drew.frozen? ⟨g, 2, none⟩ = false := blk_frozen (blk_drew V4.out) 2
    have HDL := Aside0.mk (World.block_lt_of_cell? _ _ hd)
    have HD := Aside0.mk hd
    have HBL := Aside0.mk (show (bd.add m).block < g by rw [add_block]; exact HDL0.out)
    clear hd hf4
    go_upto_region 3 with fail
    clear hv2
    go_region_held3 (fun wx => wx.cell? ⟨w.heap.size, 2, none⟩ = some (.int .u8 x.f2) ∧ wx.cell? ⟨w.heap.size + 1, 1, none⟩ = some (.slice (some bd) un.length c1) ∧ wx.cell? (bd.add m) = some (.int .u16 d))
      (exact xqS3 V1.out (by have := VG.out; omega) V2.out (by have := VG.out; omega) HD.out HBL.out (by repeat (first | exact Below.refl g V | refine Below.setCell (p := ⟨g, 2, none⟩) ?_ (Nat.le_refl g) _ | apply below_drew))) (fail)
    have X3 := Aside0.mk (blk_drew (blk_far (p := ⟨g, 2, none⟩) V3.out (show w.heap.size + 1 + 1 ≠ g by have := VG.out; omega) (.int .u16 d)))
    have X4 := Aside0.mk (blk_drew (blk_set V4.out 2 (.int .u16 d)))
    have XB := Aside0.mk (below_drew (below_set (j := 2) (v := .int .u16 d) HV.out (show w.heap.size ≤ g by have := VG.out; omega)))
    clear hg4 hg5 e0 e3 e4 e5 t2 q0 q1 o1 V1 V2 V3 V4
    generalize (V.setCell ⟨g, 2, none⟩ (.int .u16 d)).drew = X at X3 X4 XB ⊢
    have hl4 : (Tryz.prog.info? 28).map (·.size) = some 4 := by kernel_rfl
    have HST := Aside0.mk (XMem.storeAt_run (P := Tryz.prog) X (w.heap.size + 1 + 1) 0 #[.int .u32 0, .int .u16 0, .int .u16 0, .int .i64 0] 28 X3.out 28 #[.int .u32 a, .int .u16 b, .int .u16 d, .int .i64 x.f3] hl4 (Nat.le_refl 4) (by intro v hv; simp at hv; rcases hv with rfl | rfl | rfl | rfl <;> rfl))
    have X5 := XBits.setRow_at X (w.heap.size + 1 + 1) #[.int .u32 a, .int .u16 b, .int .u16 d, .int .i64 x.f3] X3.out
    have HI := Aside0.mk hl4
    clear hl4
    go_wp2_with (first
      | (refine wpList_load_row rfl 28 (.tmp 5) rfl g rfl _ _ _ _ X4.out Tryz.underlying28 rfl HI.out ?_)
      | (refine XMem.wpList_store rfl (ty := 28) (x := .tmp 4) (y := .tmp 49) rfl rfl rfl rfl HST.out ?_)
      | fail)
    refine bodyPost_ret (results_cell_row rfl _ _ (w.heap.size + 1 + 1) _ _ _ _ rfl X5 Tryz.underlying28 rfl HI.out) rfl ⟨?_, Below.grown XB.out (XMem.setRow_grown X _ _) (below_size XB.out) (fun j_ hj_ => by cases hj_; omega)⟩
    have HO := Aside0.mk (show (lineF ch un x).f2 = d by rw [HD2.out, HM.out]; exact if_pos HOD.out)
    rw [HO.out, HA.out, HB'.out, HIx.out, HJ.out]
    rfl
  · have X3 := V3
    have X4 := V4
    have XB := HV
    have o1 : (x.f2 % 2 == 1) = false := beq_eq_false_iff_ne.mpr hodd
    go_upto_region 4 with fail
    have hl4 : (Tryz.prog.info? 28).map (·.size) = some 4 := by kernel_rfl
    have HST := Aside0.mk (XMem.storeAt_run (P := Tryz.prog) V (w.heap.size + 1 + 1) 0 #[.int .u32 0, .int .u16 0, .int .u16 0, .int .i64 0] 28 X3.out 28 #[.int .u32 a, .int .u16 b, .int .u16 0, .int .i64 x.f3] hl4 (Nat.le_refl 4) (by intro v hv; simp at hv; rcases hv with rfl | rfl | rfl | rfl <;> rfl))
    have X5 := XBits.setRow_at V (w.heap.size + 1 + 1) #[.int .u32 a, .int .u16 b, .int .u16 0, .int .i64 x.f3] X3.out
    have HI := Aside0.mk hl4
    clear hl4
    go_wp2_with (first
      | (refine wpList_load_row rfl 28 (.tmp 5) rfl g rfl _ _ _ _ X4.out Tryz.underlying28 rfl HI.out ?_)
      | (refine XMem.wpList_store rfl (ty := 28) (x := .tmp 4) (y := .tmp 49) rfl rfl rfl rfl HST.out ?_)
      | fail)
    refine bodyPost_ret (results_cell_row rfl _ _ (w.heap.size + 1 + 1) _ _ _ _ rfl X5 Tryz.underlying28 rfl HI.out) rfl ⟨?_, Below.grown XB.out (XMem.setRow_grown V _ _) (below_size XB.out) (fun j_ hj_ => by cases hj_; omega)⟩
    have HO := Aside0.mk (show (lineF ch un x).f2 = 0 from if_neg hodd)
    rw [HO.out, HA.out, HB'.out, HIx.out, HJ.out]
    rfl
def transposallaw10_L_line.f (a0_0 : Int) (a0_1 : Int) (a0_2 : Int) (a0_3 : Int) (l1_0 : List (S109)) (l1_1 : List Int) (l1_2 : List Int) (a1_3 : Int) : Option (Int × Int × Int × Int) :=
  if (0 ≤ a0_0 ∧ a0_0 ≤ 255) ∧ (0 ≤ a0_1 ∧ a0_1 ≤ 255) ∧ (0 ≤ a0_2 ∧ a0_2 ≤ 255) ∧ 0 < l1_0.length ∧ 0 < l1_1.length then some ((lineF l1_0 l1_1 ⟨a0_0, a0_1, a0_2, a0_3⟩).f0, (lineF l1_0 l1_1 ⟨a0_0, a0_1, a0_2, a0_3⟩).f1, (lineF l1_0 l1_1 ⟨a0_0, a0_1, a0_2, a0_3⟩).f2, (lineF l1_0 l1_1 ⟨a0_0, a0_1, a0_2, a0_3⟩).f3) else none
theorem transposallaw10_L_line.calls (a0_0 : Int) (a0_1 : Int) (a0_2 : Int) (a0_3 : Int) (A1_0 : Option Addr) (c1_0 : Nat) (l1_0 : List (S109)) (A1_1 : Option Addr) (c1_1 : Nat) (l1_1 : List Int) (A1_2 : Option Addr) (c1_2 : Nat) (l1_2 : List Int) (a1_3 : Int) (r1 : Int) (r2 : Int) (r3 : Int) (r4 : Int) (w : World) (hr1_0 : Kd.C k109 w A1_0 l1_0.length l1_0) (hc1_0 : l1_0.length ≤ c1_0) (hr1_1 : Kd.C (Kd.int .u16) w A1_1 l1_1.length l1_1) (hc1_1 : l1_1.length ≤ c1_1) (hr1_2 : Kd.C (Kd.int .i32) w A1_2 l1_2.length l1_2) (hc1_2 : l1_2.length ≤ c1_2) (h : transposallaw10_L_line.f a0_0 a0_1 a0_2 a0_3 l1_0 l1_1 l1_2 a1_3 = some (r1, r2, r3, r4)) :
    Calls Tryz.prog 25 #[.agg #[.int .u8 a0_0, .int .u8 a0_1, .int .u8 a0_2, .int .i64 a0_3], .agg #[.slice A1_0 l1_0.length c1_0, .slice A1_1 l1_1.length c1_1, .slice A1_2 l1_2.length c1_2, .int .i32 a1_3]] w fun e w' => e = .returned (.agg #[.int .u32 r1, .int .u16 r2, .int .u16 r3, .int .i64 r4]) ∧ Below w.heap.size w w' := by
  unfold transposallaw10_L_line.f at h
  by_cases hp : (0 ≤ a0_0 ∧ a0_0 ≤ 255) ∧ (0 ≤ a0_1 ∧ a0_1 ≤ 255) ∧ (0 ≤ a0_2 ∧ a0_2 ≤ 255) ∧ 0 < l1_0.length ∧ 0 < l1_1.length
  case neg => rw [if_neg hp] at h; cases h
  rw [if_pos hp] at h
  have h := Option.some.inj h
  simp only [Prod.mk.injEq] at h
  obtain ⟨rfl, rfl, rfl, rfl⟩ := h
  exact xqLine.calls ⟨a0_0, a0_1, a0_2, a0_3⟩ A1_0 c1_0 l1_0 A1_1 c1_1 l1_1 A1_2 l1_2.length c1_2 a1_3 w hr1_0 hr1_1 hp.2.2.2.1 hp.2.2.2.2 ⟨hp.1, hp.2.1, hp.2.2.1⟩

/-! ### transposallaw10_has: function 26 -/
def hasB (ch : List S109) (un : List Int) (q0 q1 q2 : Int) : Bool := ch.any (fun x => x.f0 == q0) && un.any (fun x => x == q1) && (q2 == 0 || un.any (fun x => x == q2))
theorem xqAnyS {α : Type} (p : α → Bool) (l : List α) (i : Nat) (h : i < l.length) : (l.take (i + 1)).any p = ((l.take i).any p || p l[i]) := by
  rw [List.take_succ_eq_append_getElem h, List.any_append]
  simp
set_option maxHeartbeats 8000000 in
set_option maxRecDepth 100000 in
theorem xqHas (A0 : Option Addr) (c0 : Nat) (ch : List S109) (A1 : Option Addr) (c1 : Nat) (un : List Int) (A2 : Option Addr) (n2 c2 : Nat) (en q0 q1 q2 q3 : Int) (w : World)
    (hr0 : Kd.C k109 w A0 ch.length ch) (hr1 : Kd.C (Kd.int .u16) w A1 un.length un) (h0 : ch.length ≤ 1000000) (h1 : un.length ≤ 1000000) :
    Calls Tryz.prog 26 #[.agg #[.slice A0 ch.length c0, .slice A1 un.length c1, .slice A2 n2 c2, .int .i32 en], .agg #[.int .u32 q0, .int .u16 q1, .int .u16 q2, .int .i64 q3]] w
      fun e w' => e = .returned (.bool (hasB ch un q0 q1 q2)) ∧ Below w.heap.size w w' := by
  have hu1 := Tryz.underlying28
  have hu2 := Tryz.underlying67
  have hu3 := Tryz.underlying109
  have HR0 := Aside0.mk hr0
  have HR1 := Aside0.mk hr1
  have H0 := Aside0.mk h0
  have H1 := Aside0.mk h1
  clear hr0 hr1 h0 h1
  go_enter Tryz.func26, Tryz.ntmps26
  go_upto_region 1 with fail
  obtain ⟨W, hW, B1, B2, HB, HS⟩ := xq2 w (Obj.cells #[.slice A0 ch.length c0, .slice A1 un.length c1, .slice A2 n2 c2, .int .i32 en] 67) (Obj.cells #[.int .u32 q0, .int .u16 q1, .int .u16 q2, .int .i64 q3] 28)
  rw [← hW]
  clear hW
  have HBB := Aside0.mk HB
  have HB1 := Aside0.mk B1
  have HB2 := Aside0.mk B2
  have HSS := Aside0.mk HS
  clear B1 B2 HB HS
  obtain ⟨y0, y1, y2, y3, _, _, _, _⟩ := cl4 HB1.out
  obtain ⟨z0, z1, z2, z3, _, _, _, _⟩ := cl4 HB2.out
  go_quiet (fail)
  clear y0 y1 y2 y3 z0 z1 z2 z3
  obtain ⟨V, hV⟩ : ∃ V, V = W.drewN nq := ⟨_, rfl⟩
  have BF := Aside0.mk (show V.heap[w.heap.size]? = some (Obj.cells #[.slice A0 ch.length c0, .slice A1 un.length c1, .slice A2 n2 c2, .int .i32 en] 67) by rw [hV]; exact HB1.out)
  have BL := Aside0.mk (show V.heap[w.heap.size + 1]? = some (Obj.cells #[.int .u32 q0, .int .u16 q1, .int .u16 q2, .int .i64 q3] 28) by rw [hV]; exact HB2.out)
  have HBw := Aside0.mk (show Below w.heap.size w V by rw [hV]; exact pw_below_drewN HBB.out nq)
  rw [← hV]
  clear hV HBB HB1 HB2
  obtain ⟨y0, y1, y2, y3, _, _, _, _⟩ := cl4 BF.out
  go_upto_block 0 with fail
  go_wp2_with fail
  clear y0 y1 y2 y3
  go_loopg [5, 18] (ch.length + 1) (fun kq v5 v18 w' => ∃ i : Nat, v5 = .bool ((ch.take i).any (fun x => x.f0 == q0)) ∧ v18 = .int .i64 (i : Int) ∧ Aside0 (i + kq = ch.length + 1) ∧ Aside0 (0 < kq) ∧ Aside0 (w'.heap[w.heap.size]? = some (Obj.cells #[.slice A0 ch.length c0, .slice A1 un.length c1, .slice A2 n2 c2, .int .i32 en] 67)) ∧ Aside0 (w'.heap[w.heap.size + 1]? = some (Obj.cells #[.int .u32 q0, .int .u16 q1, .int .u16 q2, .int .i64 q3] 28)) ∧ Aside0 (Below w.heap.size w w'))
  case atStart => exact ⟨0, rfl, rfl, ⟨by omega⟩, ⟨by omega⟩, BF, BL, HBw⟩
  case round =>
    clear BF BL HBw
    obtain ⟨i, rfl, rfl, HI, HK, BF, BL, HBw⟩ := hrel
    by_cases hi : i < ch.length
    · have hd : decide ((i : Int) < (ch.length : Int)) = true := decide_eq_true (by omega)
      obtain ⟨ad, hA, hc0, hc1, hc2, hc3⟩ := at_T109 (Kd.C_below HR0.out HBw.out) (i : Int) (by omega) (by omega)
      subst hA
      rw [Int.toNat_natCast] at hc0 hc1 hc2 hc3
      have b0 : (0 : Int) ≤ (i : Int) := by omega
      have b1 : (i : Int) < (ch.length : Int) := by omega
      have HIL := Aside0.mk hi
      have HN := Aside0.mk (show (ch.take (i + 1)).any (fun x => x.f0 == q0) = ((ch.take i).any (fun x => x.f0 == q0) || ((rd_T109 ch (i : Int)).f0 == q0)) by rw [xqAnyS _ _ _ hi, show rd_T109 ch (i : Int) = ch[i] by unfold rd_T109; rw [Int.toNat_natCast, List.getD_eq_getElem?_getD, List.getElem?_eq_getElem hi]; rfl])
      clear hi
      generalize rd_T109 ch (i : Int) = xx at HN hc0 hc1 hc2 hc3
      go_upto_region 5 with fail
      have BX := Aside0.mk (blk_new wr (Obj.cells #[.int .u32 xx.f0, .string xx.f1, .int .u8 xx.f2, .int .u32 xx.f3] 109))
      have BF := Aside0.mk (blk_alloc BF.out (Obj.cells #[.int .u32 xx.f0, .string xx.f1, .int .u8 xx.f2, .int .u32 xx.f3] 109))
      have BL := Aside0.mk (blk_alloc BL.out (Obj.cells #[.int .u32 xx.f0, .string xx.f1, .int .u8 xx.f2, .int .u32 xx.f3] 109))
      have HBw := Aside0.mk (below_alloc HBw.out (Obj.cells #[.int .u32 xx.f0, .string xx.f1, .int .u8 xx.f2, .int .u32 xx.f3] 109))
      generalize wr.alloc (Obj.cells #[.int .u32 xx.f0, .string xx.f1, .int .u8 xx.f2, .int .u32 xx.f3] 109) = X at BX BF BL HBw ⊢
      obtain ⟨y0, y1, y2, y3, _, _, _, _⟩ := cl4 BX.out
      obtain ⟨z0, z1, z2, z3, _, _, _, _⟩ := cl4 BL.out
      clear hc0 hc1 hc2 hc3 hd b0 b1
      have hw1 : IntKind.i64.wrap ((i : Int) + 1) = ((i + 1 : Nat) : Int) := by
        have := H0.out; have := HIL.out
        simp only [IntKind.wrap, IntKind.signed, IntKind.bits]
        simp
        omega
      have hw2 : wrap64 ((i : Int) + 1) = ((i + 1 : Nat) : Int) := by have := H0.out; have := HIL.out; unfold wrap64; omega
      obtain ⟨gk, rfl⟩ : ∃ k', gk = k' + 1 := ⟨gk - 1, by have := HK.out; omega⟩
      generalize (ch.take i).any (fun x => x.f0 == q0) = b at HN ⊢
      cases b with
      | true =>
        go_wp2_with fail
        go_roundg gk
        case measure => omega
        case rel => exact ⟨i + 1, congrArg Value.bool HN.out.symm, rfl, ⟨by have := HI.out; omega⟩, ⟨by have := HI.out; have := HIL.out; omega⟩, BF, BL, HBw⟩
      | false =>
        go_wp2_with fail
        go_roundg gk
        case measure => omega
        case rel => exact ⟨i + 1, congrArg Value.bool HN.out.symm, rfl, ⟨by have := HI.out; omega⟩, ⟨by have := HI.out; have := HIL.out; omega⟩, BF, BL, HBw⟩
    · have hd : decide ((i : Int) < (ch.length : Int)) = false := decide_eq_false (by omega)
      have HA := Aside0.mk (show (ch.take i).any (fun x => x.f0 == q0) = ch.any (fun x => x.f0 == q0) by rw [List.take_of_length_le (by omega)])
      rw [HA.out]
      have hd2 : decide (i < ch.length) = false := decide_eq_false hi
      clear hi HA
      obtain ⟨y0, y1, y2, y3, _, _, _, _⟩ := cl4 BF.out
      go_upto_block 2 with fail
      go_wp2_with fail
      clear y0 y1 y2 y3 hd hd2 HI HK
      obtain ⟨ba, hba⟩ : ∃ ba, ba = ch.any (fun x => x.f0 == q0) := ⟨_, rfl⟩
      rw [← hba]
      have HBA := Aside0.mk hba
      clear hba
      go_loopg [6, 7, 34] (un.length + 1) (fun kq v6 v7 v34 w' => ∃ j : Nat, v6 = .bool ((un.take j).any (fun x => x == q1)) ∧ v7 = .bool (q2 == 0 || (un.take j).any (fun x => x == q2)) ∧ v34 = .int .i64 (j : Int) ∧ Aside0 (j + kq = un.length + 1) ∧ Aside0 (0 < kq) ∧ Aside0 (w'.heap[w.heap.size]? = some (Obj.cells #[.slice A0 ch.length c0, .slice A1 un.length c1, .slice A2 n2 c2, .int .i32 en] 67)) ∧ Aside0 (w'.heap[w.heap.size + 1]? = some (Obj.cells #[.int .u32 q0, .int .u16 q1, .int .u16 q2, .int .i64 q3] 28)) ∧ Aside0 (Below w.heap.size w w'))
      case atStart => exact ⟨0, rfl, congrArg Value.bool (Bool.or_false _).symm, rfl, ⟨by omega⟩, ⟨by omega⟩, BF, BL, HBw⟩
      case round =>
        clear BF BL HBw
        obtain ⟨j, rfl, rfl, rfl, HI, HK, BF, BL, HBw⟩ := hrel
        obtain ⟨z0, z1, z2, z3, _, _, _, _⟩ := cl4 BL.out
        by_cases hj : j < un.length
        · have hd : decide ((j : Int) < (un.length : Int)) = true := decide_eq_true (by omega)
          obtain ⟨bd, hA, hc⟩ := Kd.at_int (Kd.C_below HR1.out HBw.out) (j : Int) (by omega) (by omega)
          subst hA
          rw [Int.toNat_natCast] at hc
          have b0 : (0 : Int) ≤ (j : Int) := by omega
          have b1 : (j : Int) < (un.length : Int) := by omega
          have HIL := Aside0.mk hj
          have hrd : rd un (j : Int) = un[j] := by unfold rd; rw [Int.toNat_natCast, List.getD_eq_getElem?_getD, List.getElem?_eq_getElem hj]; rfl
          have HN1 := Aside0.mk (show (un.take (j + 1)).any (fun x => x == q1) = ((un.take j).any (fun x => x == q1) || (rd un (j : Int) == q1)) by rw [xqAnyS _ _ _ hj, hrd])
          have HN2 := Aside0.mk (show (un.take (j + 1)).any (fun x => x == q2) = ((un.take j).any (fun x => x == q2) || (rd un (j : Int) == q2)) by rw [xqAnyS _ _ _ hj, hrd])
          clear hj hrd
          generalize rd un (j : Int) = xx at HN1 HN2 hc
          have hw1 : IntKind.i64.wrap ((j : Int) + 1) = ((j + 1 : Nat) : Int) := by
            have := H1.out; have := HIL.out
            simp only [IntKind.wrap, IntKind.signed, IntKind.bits]
            simp
            omega
          have hw2 : wrap64 ((j : Int) + 1) = ((j + 1 : Nat) : Int) := by have := H1.out; have := HIL.out; unfold wrap64; omega
          obtain ⟨gk, rfl⟩ : ∃ k', gk = k' + 1 := ⟨gk - 1, by have := HK.out; omega⟩
          generalize (un.take j).any (fun x => x == q1) = b at HN1 ⊢
          obtain ⟨c, hc2⟩ : ∃ c, c = (q2 == 0 || (un.take j).any (fun x => x == q2)) := ⟨_, rfl⟩
          have HN3 := Aside0.mk (show (q2 == 0 || (un.take (j + 1)).any (fun x => x == q2)) = (c || (xx == q2)) by rw [HN2.out, hc2, Bool.or_assoc])
          rw [← hc2]
          clear hc2 HN2
          cases b <;> cases c
          all_goals go_wp2_with fail
          all_goals repeat (go_quiet (fail); try go_wp2)
          all_goals go_roundg gk
          all_goals first
            | omega
            | exact ⟨j + 1, congrArg Value.bool HN1.out.symm, congrArg Value.bool HN3.out.symm, rfl, ⟨by have := HI.out; omega⟩, ⟨by have := HI.out; have := HIL.out; omega⟩, ⟨BF.out⟩, ⟨BL.out⟩, ⟨by first | exact HBw.out | exact pw_below_drewN HBw.out _⟩⟩
        · have hd : decide ((j : Int) < (un.length : Int)) = false := decide_eq_false (by omega)
          have hd2 : decide (j < un.length) = false := decide_eq_false hj
          have hA1 : (un.take j).any (fun x => x == q1) = un.any (fun x => x == q1) := by rw [List.take_of_length_le (by omega)]
          have hA2 : (un.take j).any (fun x => x == q2) = un.any (fun x => x == q2) := by rw [List.take_of_length_le (by omega)]
          rw [hA1, hA2]
          clear hA1 hA2 hj
          obtain ⟨b, hb⟩ : ∃ b, b = un.any (fun x => x == q1) := ⟨_, rfl⟩
          obtain ⟨c, hc⟩ : ∃ c, c = (q2 == 0 || un.any (fun x => x == q2)) := ⟨_, rfl⟩
          rw [← hb, ← hc]
          have HE := Aside0.mk (show hasB ch un q0 q1 q2 = (ba && b && c) by rw [HBA.out, hb, hc]; rfl)
          clear hb hc HBA
          cases ba <;> cases b
          all_goals go_wp2_with fail
          all_goals repeat (go_quiet (fail); try go_wp2)
          all_goals go_ret
          all_goals exact ⟨congrArg (fun z => Ending.returned (Value.bool z)) HE.out.symm, by first | exact HBw.out | exact pw_below_drewN HBw.out _⟩
def transposallaw10_has.f (l0_0 : List (S109)) (l0_1 : List Int) (_l0_2 : List Int) (_a0_3 : Int) (a1_0 : Int) (a1_1 : Int) (a1_2 : Int) (_a1_3 : Int) : Option Bool := if l0_0.length ≤ 1000000 ∧ l0_1.length ≤ 1000000 then some (hasB l0_0 l0_1 a1_0 a1_1 a1_2) else none
theorem transposallaw10_has.calls (A0_0 : Option Addr) (c0_0 : Nat) (l0_0 : List (S109)) (A0_1 : Option Addr) (c0_1 : Nat) (l0_1 : List Int) (A0_2 : Option Addr) (c0_2 : Nat) (l0_2 : List Int) (a0_3 : Int) (a1_0 : Int) (a1_1 : Int) (a1_2 : Int) (a1_3 : Int) (r : Bool) (w : World) (hr0_0 : Kd.C k109 w A0_0 l0_0.length l0_0) (hc0_0 : l0_0.length ≤ c0_0) (hr0_1 : Kd.C (Kd.int .u16) w A0_1 l0_1.length l0_1) (hc0_1 : l0_1.length ≤ c0_1) (hr0_2 : Kd.C (Kd.int .i32) w A0_2 l0_2.length l0_2) (hc0_2 : l0_2.length ≤ c0_2) (h : transposallaw10_has.f l0_0 l0_1 l0_2 a0_3 a1_0 a1_1 a1_2 a1_3 = some r) :
    Calls Tryz.prog 26 #[.agg #[.slice A0_0 l0_0.length c0_0, .slice A0_1 l0_1.length c0_1, .slice A0_2 l0_2.length c0_2, .int .i32 a0_3], .agg #[.int .u32 a1_0, .int .u16 a1_1, .int .u16 a1_2, .int .i64 a1_3]] w fun e w' => e = .returned (.bool r) ∧ Below w.heap.size w w' := by
  unfold transposallaw10_has.f at h
  by_cases hp : l0_0.length ≤ 1000000 ∧ l0_1.length ≤ 1000000
  case neg => rw [if_neg hp] at h; cases h
  rw [if_pos hp] at h
  obtain rfl := Option.some.inj h
  exact xqHas A0_0 c0_0 l0_0 A0_1 c0_1 l0_1 A0_2 l0_2.length c0_2 a0_3 a1_0 a1_1 a1_2 a1_3 w hr0_0 hr0_1 hp.1 hp.2

/-! ### chart_Chart_Find_1: function 100 -/
def chart_Chart_Find_1.f (a0_0 : Int) (a0_1 : ByteArray) (a0_2 : Int) (a0_3 : Int) (a1 : Int) : Option (Int) := if a0_0 < a1 then (some (-1)) else (if a0_0 > a1 then (some 1) else (some 0))
set_option maxHeartbeats 8000000 in
set_option maxRecDepth 100000 in
theorem chart_Chart_Find_1.calls (a0_0 : Int) (a0_1 : ByteArray) (a0_2 : Int) (a0_3 : Int) (a1 : Int) (r : Int) (w : World) (h : chart_Chart_Find_1.f a0_0 a0_1 a0_2 a0_3 a1 = some r) :
  Calls Tryz.prog 100 #[.agg #[.int .u32 a0_0, .string a0_1, .int .u8 a0_2, .int .u32 a0_3], .int .u32 a1] w fun e w' => e = .returned (.int .i64 r) ∧ Below w.heap.size w w' := by
 have hu109 := Tryz.underlying109
 have HB := Aside0.mk (Below.refl w.heap.size w)
 have H : (if a0_0 < a1 then (some (-1)) else (if a0_0 > a1 then (some 1) else (some 0))) = some r := h
 clear h
 by_cases c3 : a0_0 < a1
 ·rw [if_pos c3] at H
  have c3b0 : decide (a0_0 < a1) = true := decide_eq_true c3
  clear c3
  obtain rfl := Option.some.inj H
  go_enter Tryz.func100, Tryz.ntmps100
  go_wp2_with (first | ((with_reducible refine gate_dst (N := 2) rfl ?_); refine box_event ?hg (N := 2) ?hd (cs := #[.int .u32 a0_0, .string a0_1, .int .u8 a0_2, .int .u32 a0_3]) (t := 109) ?hr ?_; (case hd => rfl); (case hg => rfl); (case hr => first | (go_simp; done) | (go_simp; rfl)); intro gb173 hg w4 hbox hb; have n0_ := Aside0.mk (below_step bB hb); have n1_ := Aside0.mk (hbox); have n2_ := Aside0.mk ((by rw [hg]; exact (below_size bB) : w.heap.size ≤ gb173)); have n3_ := Aside0.mk ((by rw [hg]; exact (below_size bB) : w.heap.size ≤ gb173)); clear HB; have HB := n0_; have BK173 := n1_; have GW173 := n2_; have GE173 := n3_; clear n0_ n1_ n2_ n3_; clear hb hbox hg; obtain ⟨hcz5_0, hcz5_1, hcz5_2, hcz5_3, hfz5_0, hfz5_1, hfz5_2, hfz5_3⟩ := cl4 BK173.out))
  go_ret
  exact ⟨eR, bG⟩
 ·rw [if_neg c3] at H
  have c3b0 : decide (a0_0 < a1) = false := decide_eq_false c3
  clear c3
  by_cases c6 : a0_0 > a1
  ·rw [if_pos c6] at H
   have c6b0 : decide (a1 < a0_0) = true := decide_eq_true c6
   clear c6
   obtain rfl := Option.some.inj H
   go_enter Tryz.func100, Tryz.ntmps100
   go_wp2_with (first | ((with_reducible refine gate_dst (N := 2) rfl ?_); refine box_event ?hg (N := 2) ?hd (cs := #[.int .u32 a0_0, .string a0_1, .int .u8 a0_2, .int .u32 a0_3]) (t := 109) ?hr ?_; (case hd => rfl); (case hg => rfl); (case hr => first | (go_simp; done) | (go_simp; rfl)); intro gb173 hg w7 hbox hb; have n0_ := Aside0.mk (below_step bB hb); have n1_ := Aside0.mk (hbox); have n2_ := Aside0.mk ((by rw [hg]; exact (below_size bB) : w.heap.size ≤ gb173)); have n3_ := Aside0.mk ((by rw [hg]; exact (below_size bB) : w.heap.size ≤ gb173)); clear HB; have HB := n0_; have BK173 := n1_; have GW173 := n2_; have GE173 := n3_; clear n0_ n1_ n2_ n3_; clear hb hbox hg; obtain ⟨hcz8_0, hcz8_1, hcz8_2, hcz8_3, hfz8_0, hfz8_1, hfz8_2, hfz8_3⟩ := cl4 BK173.out))
   go_ret
   exact ⟨eR, bG⟩
  ·rw [if_neg c6] at H
   have c6b0 : decide (a1 < a0_0) = false := decide_eq_false c6
   clear c6
   obtain rfl := Option.some.inj H
   go_enter Tryz.func100, Tryz.ntmps100
   go_wp2_with (first | ((with_reducible refine gate_dst (N := 2) rfl ?_); refine box_event ?hg (N := 2) ?hd (cs := #[.int .u32 a0_0, .string a0_1, .int .u8 a0_2, .int .u32 a0_3]) (t := 109) ?hr ?_; (case hd => rfl); (case hg => rfl); (case hr => first | (go_simp; done) | (go_simp; rfl)); intro gb173 hg w9 hbox hb; have n0_ := Aside0.mk (below_step bB hb); have n1_ := Aside0.mk (hbox); have n2_ := Aside0.mk ((by rw [hg]; exact (below_size bB) : w.heap.size ≤ gb173)); have n3_ := Aside0.mk ((by rw [hg]; exact (below_size bB) : w.heap.size ≤ gb173)); clear HB; have HB := n0_; have BK173 := n1_; have GW173 := n2_; have GE173 := n3_; clear n0_ n1_ n2_ n3_; clear hb hbox hg; obtain ⟨hcz10_0, hcz10_1, hcz10_2, hcz10_3, hfz10_0, hfz10_1, hfz10_2, hfz10_3⟩ := cl4 BK173.out))
   go_ret
   exact ⟨eR, bG⟩

end Go.Proofs.YtddaogebacigbaaGreatDoor.XA
