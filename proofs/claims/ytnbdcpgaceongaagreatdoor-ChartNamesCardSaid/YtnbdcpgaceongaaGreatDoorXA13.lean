-- Written by a program of this session's (wip/xp) out of the translation; given functions by hand.
import Derived.Test.YtnbdcpgaceongaaGreatDoorShelfB
import Derived.Test.YtnbdcpgaceongaaGreatDoorXA0
import Derived.Test.YtnbdcpgaceongaaGreatDoorXA12
namespace Go.Proofs.YtnbdcpgaceongaaGreatDoor.XA
open Go.RowKit Go.Proofs.YtnbdcpgaceongaaGreatDoorW.PrintWords Go.Proofs.YtnbdcpgaceongaaGreatDoorW.PrintLast Go.Proofs.YtnbdcpgaceongaaGreatDoorW.PrintMore
attribute [local go_sem] max2_int min2_int max_two min_two max_three min_three max_four min_four   -- for this text's walks alone
set_option linter.unusedVariables false
set_option linter.unusedSimpArgs false

/-! ### chart_Chart_Moved: function 24 -/
def chart_Chart_Moved.l0 : Nat → Int → Int → List (S30) → Int → Int → Option ((List (S30)))
 | 0, _, _, _, _, _ => none
 | k + 1, x1, x2, x7, x12, x13 => if x13 < x12 then (if 0 ≤ x13 then (if x13 < (x7.length : Int) then (if ((rd_T30 x7 x13).f3) = x1 then (chart_Chart_Moved.l0 k x1 x2 (x7.set (x13 : Int).toNat (⟨(rd_T30 x7 x13).f0, (rd_T30 x7 x13).f1, (rd_T30 x7 x13).f2, x2⟩ : S30)) x12 (wrap64 (x13 + 1))) else (chart_Chart_Moved.l0 k x1 x2 x7 x12 (wrap64 (x13 + 1)))) else (none)) else (none)) else (some x7)
def chart_Chart_Moved.f (k : Nat) (l0 : List (S30)) (a1 : Int) (a2 : Int) : Option ((List (S30))) := (chart_Account_39.f l0).bind fun t356 => (chart_Chart_Moved.l0 k a1 a2 t356 (t356.length : Int) 0)
theorem chart_Chart_Moved.mono_l : ∀ k, (∀ y0 y1 y2 y3 y4, LeO (chart_Chart_Moved.l0 k y0 y1 y2 y3 y4) (chart_Chart_Moved.l0 (k + 1) y0 y1 y2 y3 y4))
 | 0 => fun _ _ _ _ _ r h => by simp [chart_Chart_Moved.l0] at h
 | k + 1 => by
  have ih0 := chart_Chart_Moved.mono_l k
  ·intro y0 y1 y2 y3 y4
   unfold chart_Chart_Moved.l0
   repeat' first
   | (with_reducible exact ih0 _ _ _ _ _)
   | (with_reducible exact LeO.refl _)
   | (with_reducible exact LeO.none _)
   | (with_reducible refine LeO.ite ?_ ?_)
   | (with_reducible refine LeO.bind ?_ (fun _ => ?_))
   | exact ih0 _ _ _ _ _
   | exact LeO.none _
   | refine LeO.ite ?_ ?_
   | refine LeO.bind ?_ (fun _ => ?_)
theorem chart_Chart_Moved.mono : ∀ a0 a1 a2 k, LeO (chart_Chart_Moved.f k a0 a1 a2) (chart_Chart_Moved.f (k + 1) a0 a1 a2) := by
 intro a0 a1 a2 k
 have ih0 := chart_Chart_Moved.mono_l k
 unfold chart_Chart_Moved.f
 repeat' first
   | (with_reducible exact ih0 _ _ _ _ _)
   | (with_reducible exact LeO.refl _)
   | (with_reducible exact LeO.none _)
   | (with_reducible refine LeO.ite ?_ ?_)
   | (with_reducible refine LeO.bind ?_ (fun _ => ?_))
   | exact ih0 _ _ _ _ _
   | exact LeO.none _
   | refine LeO.ite ?_ ?_
   | refine LeO.bind ?_ (fun _ => ?_)
set_option maxHeartbeats 8000000 in
set_option maxRecDepth 100000 in
theorem chart_Chart_Moved.calls (k : Nat) (A0 : Option Addr) (c0 : Nat) (l0 : List (S30)) (a1 : Int) (a2 : Int) (r : List (S30)) (w : World) (hr0 : Kd.C k30 w A0 l0.length l0) (hc0 : l0.length ≤ c0) (h : chart_Chart_Moved.f k l0 a1 a2 = some r) :
  Calls Tryz.prog 24 #[.slice A0 l0.length c0, .int .u32 a1, .int .u32 a2] w fun e w' => ∃ v0_ : Value, e = .returned (v0_) ∧ Kd.R k30 30 w' w.heap.size (fun _ => True) v0_ r ∧ Below w.heap.size w w' := by
 have HR0 := Aside0.mk hr0
 have HC0 := Aside0.mk hc0
 clear hr0 hc0
 have HB := Aside0.mk (Below.refl w.heap.size w)
 have H : ((chart_Account_39.f l0).bind fun t356 => (chart_Chart_Moved.l0 k a1 a2 t356 (t356.length : Int) 0)) = some r := h
 clear h
 replace H := Option.bind_eq_some_iff.mp H
 obtain ⟨t356, A40, H⟩ := H
 replace H : (chart_Chart_Moved.l0 k a1 a2 t356 (t356.length : Int) 0) = some r := H
 have A4 := Aside0.mk A40
 clear A40
 have H' := Aside0.mk H
 clear H
 go_enter Tryz.func24, Tryz.ntmps24
 go_wp2_with (first | ((with_reducible refine gate_callee (f := 39) rfl ?_); refine goesL_ (some 10) rfl rfl Tryz.func39 (by kernel_rfl) rfl #[.slice A0 l0.length c0] rfl (by (try simp only [List.map_toArray, List.map_cons, List.map_nil]); first | done | rfl | (simp only [List.length_drop, List.length_take]; rfl)) ?_; (with_reducible refine (chart_Account_39.calls _ _ l0 t356 _ ?side1 ?side2 A4.out).mono ?_); (case side1 => repeat (first | exact HR0.out | (with_reducible refine Kd.C_alloc ?_ _) | (with_reducible refine Kd.C_drewN ?_ _) | (with_reducible refine Kd.C_drew ?_))); (case side2 => exact HC0.out); rintro e w5 ⟨v357, rfl, ho0, hb⟩; refine ⟨_, rfl, ?_⟩; have n0_ := Aside0.mk (Kd.R_lower ho0 (below_size (by repeat (first | (with_reducible first | exact HB.out | apply below_alloc | apply pw_below_drewN | apply below_drew1) | exact HB.out)))); have n1_ := Aside0.mk (below_step (by repeat (first | (with_reducible first | exact HB.out | apply below_alloc | apply pw_below_drewN | apply below_drew1) | exact HB.out)) hb); clear HB; have HO358 := n0_; have HB := n1_; clear n0_ n1_; (try clear hb); (try clear hb2); (try clear hk); (try clear hi); (try clear ho0); obtain ⟨Ao6, co6, eo6⟩ := Kd.R_slice HO358.out; subst eo6))
 go_loopg [13] k (fun kq v13 w' => ∃ (x7_1 : List (S30)) (x13_1 : Int), v13 = .int .i64 x13_1 ∧ Aside0 (chart_Chart_Moved.l0 kq a1 a2 x7_1 (t356.length : Int) x13_1 = some r) ∧ Aside0 (kq ≤ k) ∧ Aside0 (Kd.R k30 30 w' w.heap.size (fun _ => True) (.slice Ao6 t356.length co6) x7_1) ∧ Aside0 (Below w.heap.size w w'))
 case atStart => exact ⟨(t356), (0), (by first | rfl | (simp; done) | (simp [*]; done)), H', ⟨Nat.le_refl _⟩, ⟨by (with_reducible repeat (first | apply Kd.R_alloc | apply Kd.R_drewN | apply Kd.R_drew)); exact HO358.out⟩, ⟨by repeat (first | (with_reducible first | exact HB.out | apply below_alloc | apply pw_below_drewN | apply below_drew1) | exact HB.out)⟩⟩
 case round =>
  clear H'
  try clear c2
  try clear p2
  try clear c3
  obtain ⟨x7_1, x13_1, rfl, HA, HK1, HO_7, HB⟩ := hrel
  have hl7_1 := (Kd.R_reads' HO_7.out).1
  rw [hl7_1] at HO_7
  (try simp only [hl7_1])
  cases gk with
  | zero => exact absurd HA.out (by simp [chart_Chart_Moved.l0])
  | succ k1 =>
   have H := HA.out
   clear HA
   simp only [chart_Chart_Moved.l0] at H
   by_cases c7 : x13_1 < (t356.length : Int)
   ·rw [if_pos c7] at H
    have c7b0 : decide (x13_1 < (t356.length : Int)) = true := decide_eq_true c7
    clear c7
    by_cases c8 : 0 ≤ x13_1
    ·rw [if_pos c8] at H
     have c8b0 : decide (0 ≤ x13_1) = true := decide_eq_true c8
     clear c8
     by_cases c9 : x13_1 < (x7_1.length : Int)
     ·rw [if_pos c9] at H
      have c9b0 : decide (x13_1 < (x7_1.length : Int)) = true := decide_eq_true c9
      clear c9
      by_cases c10 : ((rd_T30 x7_1 x13_1).f3) = a1
      ·rw [if_pos c10] at H
       have c10b0 : (((rd_T30 x7_1 x13_1).f3) == a1) = true := beq_iff_eq.mpr c10
       have c10b1 : (((rd_T30 x7_1 x13_1).f3) != a1) = false := bne_eq_false_iff_eq.mpr c10
       clear c10
       obtain ⟨y360, hy360⟩ : ∃ y_ : List (S30), y_ = (x7_1.set (x13_1 : Int).toNat (⟨(rd_T30 x7_1 x13_1).f0, (rd_T30 x7_1 x13_1).f1, (rd_T30 x7_1 x13_1).f2, a2⟩ : S30)) := ⟨_, rfl⟩
       replace H : (chart_Chart_Moved.l0 k1 a1 a2 y360 (t356.length : Int) (wrap64 (x13_1 + 1))) = some r := by first | (rw [hy360]; with_reducible exact H) | (have H2_ := (Option.bind_some _ _).symm.trans H; rw [hy360]; with_reducible exact H2_) | (have H2_ := (Option.bind_some _ _).symm.trans H; with_reducible exact H2_) | with_reducible exact H | (rw [hy360]; exact H) | exact H
       have Ny360 := Aside0.mk hy360
       clear hy360
       have H' := Aside0.mk H
       clear H
       have p359 : 0 ≤ (x13_1 : Int) := of_decide_eq_true (by first | (with_reducible assumption) | assumption)
       have q359 : x13_1 < (x7_1.length : Int) := of_decide_eq_true (by first | (with_reducible assumption) | assumption)
       obtain ⟨ad359, e359, hx359_0, hx359_1, hx359_2, hx359_3⟩ := at_T30 (Kd.R_reads' HO_7.out).2.2 x13_1 p359 q359
       cases e359
       replace p359 := eq_true p359
       replace q359 := eq_true q359
       have p11 : 0 ≤ (x13_1 : Int) := of_decide_eq_true (by first | (with_reducible assumption) | assumption)
       have q11 : (x13_1 : Int) < ((x7_1.length : Int) : Int) := of_decide_eq_true (by first | (with_reducible assumption) | assumption)
       obtain ⟨go11, co11, eo11, gb11, gl11, cl11, HG11⟩ := Kd.R_form HO_7.out (by omega)
       (first | cases eo11 | (injection eo11 with ea_ en_ ec_; (first | subst ea_ | (injection ea_ with ea_; subst ea_)); subst ec_; clear en_))
       have GB11 := Aside0.mk gb11
       have GG11 := Aside0.mk HG11
       clear gb11 gl11 HG11
       (first | simp only [add_plain] at hx359_0 | skip)
       (first | simp only [add_plain] at hx359_1 | skip)
       (first | simp only [add_plain] at hx359_2 | skip)
       (first | simp only [add_plain] at hx359_3 | skip)
       obtain ⟨ce11, hcl11, hM11, hcc11, hfr11⟩ := Kd.R_elem HO_7.out z30 (x13_1 : Int) p11 q11
       obtain rfl := k30_openM hM11
       have hx11_0 : wr.cell? ⟨go11, (x13_1 : Int).toNat * 4, none⟩ = some (.int .u32 ((rd_T30 x7_1 x13_1).f0)) := hcc11 0 _ rfl
       have hx11_1 : wr.cell? ⟨go11, (x13_1 : Int).toNat * 4 + 1, none⟩ = some (.string ((rd_T30 x7_1 x13_1).f1)) := hcc11 1 _ rfl
       have hx11_2 : wr.cell? ⟨go11, (x13_1 : Int).toNat * 4 + 2, none⟩ = some (.int .u8 ((rd_T30 x7_1 x13_1).f2)) := hcc11 2 _ rfl
       have hx11_3 : wr.cell? ⟨go11, (x13_1 : Int).toNat * 4 + 3, none⟩ = some (.int .u32 ((rd_T30 x7_1 x13_1).f3)) := hcc11 3 _ rfl
       have hf11_0 : wr.frozen? ⟨go11, (x13_1 : Int).toNat * 4, none⟩ = false := hfr11 0
       have hf11_1 : wr.frozen? ⟨go11, (x13_1 : Int).toNat * 4 + 1, none⟩ = false := hfr11 1
       have hf11_2 : wr.frozen? ⟨go11, (x13_1 : Int).toNat * 4 + 2, none⟩ = false := hfr11 2
       have hf11_3 : wr.frozen? ⟨go11, (x13_1 : Int).toNat * 4 + 3, none⟩ = false := hfr11 3
       clear hcl11 hcc11 hfr11 hM11
       replace p11 := eq_true p11
       replace q11 := eq_true q11
       have HX12 := Aside0.mk (show Kd.R k30 30 wr w.heap.size (fun _ => True) (.slice (some ⟨go11, 0, none⟩) x7_1.length co6) x7_1 from (by (with_reducible repeat (first | apply Kd.R_alloc | apply Kd.R_drewN | apply Kd.R_drew)); exact HO_7.out))
       obtain ⟨ce12, hcl12, hM12, hcc12, hfr12⟩ := Kd.R_elem HX12.out z30 (x13_1 : Int) (of_decide_eq_true (by first | (with_reducible assumption) | assumption)) (by have h_ : (x13_1 : Int) < ((x7_1.length : Int) : Int) := of_decide_eq_true (by first | (with_reducible assumption) | assumption); first | exact h_ | (have e_ := (Kd.R_reads' HO_7.out).1; omega) | simpa using h_)
       obtain rfl := k30_openM hM12
       have HP12 := Kd.R_seg HX12.out (x13_1 : Int) (of_decide_eq_true (by first | (with_reducible assumption) | assumption)) (by have h_ : (x13_1 : Int) < ((x7_1.length : Int) : Int) := of_decide_eq_true (by first | (with_reducible assumption) | assumption); first | exact h_ | (have e_ := (Kd.R_reads' HO_7.out).1; omega) | simpa using h_) (seg := [.int .u32 a2]) (j := 3) hcl12 hcc12 (show 4 ≤ 4 from by decide) (x' := (⟨(rd_T30 x7_1 x13_1).f0, (rd_T30 x7_1 x13_1).f1, (rd_T30 x7_1 x13_1).f2, a2⟩ : S30)) (k30_mkM _ _ _ (⟨(rd_T30 x7_1 x13_1).f0, (rd_T30 x7_1 x13_1).f1, (rd_T30 x7_1 x13_1).f2, a2⟩ : S30) ) (fun _ hk => hk)
       have hx12_3 := hcc12 3 _ rfl
       (try simp only [show (k30).sz = 4 from rfl, Nat.mul_one, Nat.add_zero] at hx12_3)
       have hf12_3 := hfr12 3
       (try simp only [show (k30).sz = 4 from rfl, Nat.mul_one, Nat.add_zero] at hf12_3)
       clear hcl12 hcc12 hfr12 hM12
       go_wp2_with (first | ((with_reducible refine gate_store (t := 27) (p := 27) rfl ?_); refine store_event (t := 27) (p := 27) (v := ?vo_w13) (w1 := (wr.setCell ⟨go11, (x13_1 : Int).toNat * 4 + 3, none⟩ (.int .u32 a2))) ?hg ?ho ?hn ?hr ?_; (case ho => rfl); (case hg => rfl); (case hn => rfl); (case hr => first | (go_simp; done) | (go_simp; rfl)); intro w13 hw; have hg : wr.grownBy w13 (some go11) := (by rw [hw]; exact HP12.2); have hp_ : Kd.R k30 30 w13 w.heap.size (fun _ => True) (.slice (some ⟨go11, 0, none⟩) x7_1.length co6) y360 := (by rw [hw, Ny360.out]; exact HP12.1); clear HP12; have n0_ := Aside0.mk (hp_); have n1_ := Aside0.mk ((by rw [hw]; exact below_set (HB.out) GB11.out : Below w.heap.size w w13)); clear HO_7; clear HB; have HO_7 := n0_; have HB := n1_; clear n0_ n1_; clear hg hw hp_))
       (try simp only [← hl7_1])
       go_roundg k1
       case measure => have := HK1.out; omega
       case rel => exact ⟨(y360), (wrap64 (x13_1 + 1)), (by first | rfl | (simp; done) | (simp [*]; done)), H', ⟨by have := HK1.out; omega⟩, ⟨by (try simp only [hl7_1]); (with_reducible repeat (first | apply Kd.R_alloc | apply Kd.R_drewN | apply Kd.R_drew)); exact HO_7.out⟩, ⟨by repeat (first | (with_reducible first | exact HB.out | apply below_alloc | apply pw_below_drewN | apply below_drew1) | exact HB.out)⟩⟩
      ·rw [if_neg c10] at H
       have c10b0 : (((rd_T30 x7_1 x13_1).f3) == a1) = false := beq_eq_false_iff_ne.mpr c10
       have c10b1 : (((rd_T30 x7_1 x13_1).f3) != a1) = true := bne_iff_ne.mpr c10
       have H' := Aside0.mk H
       clear H
       have p359 : 0 ≤ (x13_1 : Int) := of_decide_eq_true (by first | (with_reducible assumption) | assumption)
       have q359 : x13_1 < (x7_1.length : Int) := of_decide_eq_true (by first | (with_reducible assumption) | assumption)
       obtain ⟨ad359, e359, hx359_0, hx359_1, hx359_2, hx359_3⟩ := at_T30 (Kd.R_reads' HO_7.out).2.2 x13_1 p359 q359
       cases e359
       replace p359 := eq_true p359
       replace q359 := eq_true q359
       go_wp2
       (try simp only [← hl7_1])
       go_roundg k1
       case measure => have := HK1.out; omega
       case rel => exact ⟨(x7_1), (wrap64 (x13_1 + 1)), (by first | rfl | (simp; done) | (simp [*]; done)), H', ⟨by have := HK1.out; omega⟩, ⟨by (try simp only [hl7_1]); (with_reducible repeat (first | apply Kd.R_alloc | apply Kd.R_drewN | apply Kd.R_drew)); exact HO_7.out⟩, ⟨by repeat (first | (with_reducible first | exact HB.out | apply below_alloc | apply pw_below_drewN | apply below_drew1) | exact HB.out)⟩⟩
     ·rw [if_neg c9] at H
      exact absurd H (by simp)
    ·rw [if_neg c8] at H
     exact absurd H (by simp)
   ·rw [if_neg c7] at H
    have c7b0 : decide (x13_1 < (t356.length : Int)) = false := decide_eq_false c7
    rw [hl7_1] at c7b0
    clear c7
    obtain rfl := Option.some.inj H
    go_wp2
    go_ret
    exact ⟨_, by first | rfl | (simp [errW_none, errW_some] <;> rfl) | (simp [*, errW_none, errW_some] <;> rfl), by (with_reducible repeat (first | apply Kd.R_alloc | apply Kd.R_drewN | apply Kd.R_drew)); exact HO_7.out, by repeat (first | (with_reducible first | exact HB.out | apply below_alloc | apply pw_below_drewN | apply below_drew1) | exact HB.out)⟩

-- NOT PRINTED: function 5 (transposallaw06_ChartTurns)

-- NOT PRINTED: function 6 (transposallaw06_ChartBack)

/-! ### chart_Name: function 25 -/
/-- One to thirty bytes, letters, digits, blanks, points, no blank at an end. -/
def okByte (c : UInt8) : Bool := (97 ≤ c.toNat && c.toNat ≤ 122) || (65 ≤ c.toNat && c.toNat ≤ 90) || (48 ≤ c.toNat && c.toNat ≤ 57) || c.toNat == 32 || c.toNat == 46
def okName (l : List UInt8) : Bool := decide (1 ≤ l.length) && decide (l.length ≤ 30) && !(l.head? == some 32) && !(l.getLast? == some 32) && l.all okByte
def chart_Name.f (a0 : ByteArray) : Option Bool := some (okName a0.data.toList)
set_option maxHeartbeats 8000000 in
set_option maxRecDepth 100000 in
theorem chart_Name.calls (a0 : ByteArray) (r : Bool) (w : World) (h : chart_Name.f a0 = some r) :
    Calls Tryz.prog 25 #[.string a0] w fun e w' => e = .returned (.bool r) ∧ Below w.heap.size w w' := by
  unfold chart_Name.f at h
  obtain rfl := Option.some.inj h
  clear h
  have hsz : a0.data.toList.length = a0.size := Array.length_toList
  by_cases h1 : a0.size < 1
  · have hr : okName a0.data.toList = false := by
      unfold okName
      have : ¬ 1 ≤ a0.data.toList.length := by omega
      simp only [this, decide_false, Bool.false_and]
    rw [hr]
    have c1 : decide ((a0.size : Int) < 1) = true := decide_eq_true (by omega)
    have c2 : decide (a0.size < 1) = true := decide_eq_true h1
    go_enter Tryz.func25, Tryz.ntmps25
    go_wp2
    go_ret
    exact ⟨rfl, Below.refl _ _⟩
  have c1 : decide ((a0.size : Int) < 1) = false := decide_eq_false (by omega)
  have c2 : decide (a0.size < 1) = false := decide_eq_false h1
  by_cases h2 : 30 < a0.size
  · have hr : okName a0.data.toList = false := by
      unfold okName
      have : ¬ a0.data.toList.length ≤ 30 := by omega
      simp only [this, decide_false, Bool.false_and, Bool.and_false]
    rw [hr]
    have c3 : decide (30 < (a0.size : Int)) = true := decide_eq_true (by omega)
    have c4 : decide (30 < a0.size) = true := decide_eq_true h2
    go_enter Tryz.func25, Tryz.ntmps25
    go_wp2
    go_ret
    exact ⟨rfl, Below.refl _ _⟩
  have c3 : decide (30 < (a0.size : Int)) = false := decide_eq_false (by omega)
  have c4 : decide (30 < a0.size) = false := decide_eq_false h2
  have i0 : 0 < a0.size := by omega
  have hd : a0.data.toList.head? = some a0[0] := by
    rw [List.head?_eq_getElem?, List.getElem?_eq_getElem (by omega)]
    simp [ByteArray.getElem_eq_getElem_data]
  have hl : a0.data.toList.getLast? = some a0[a0.size - 1] := by
    rw [List.getLast?_eq_getElem?, hsz, List.getElem?_eq_getElem (by omega)]
    simp [ByteArray.getElem_eq_getElem_data]
  have hall : ∀ (p : Nat) (h : p < a0.size), okByte a0[p] = false → okName a0.data.toList = false := by
    intro p hp hq
    unfold okName
    have : a0.data.toList.all okByte = false := by
      rw [List.all_eq_false]
      refine ⟨a0[p], ?_, by simp [hq]⟩
      simp [ByteArray.getElem_eq_getElem_data]
    rw [this, Bool.and_false]
  by_cases h3 : (a0[0].toNat : Int) = 32
  · have hr : okName a0.data.toList = false := by
      unfold okName
      have : a0[0] = 32 := UInt8.toNat_inj.1 (by show a0[0].toNat = 32; omega)
      rw [hd, this]
      simp
    rw [hr]
    have c5 : ((a0[0].toNat : Int) == 32) = true := beq_iff_eq.2 h3
    go_enter Tryz.func25, Tryz.ntmps25
    go_wp2
    all_goals (go_ret; exact ⟨rfl, Below.refl _ _⟩)
  have c5 : ((a0[0].toNat : Int) == 32) = false := beq_eq_false_iff_ne.2 h3
  by_cases h4 : (a0[a0.size - 1].toNat : Int) = 32
  · have hr : okName a0.data.toList = false := by
      unfold okName
      have : a0[a0.size - 1] = 32 := UInt8.toNat_inj.1 (by show a0[a0.size - 1].toNat = 32; omega)
      rw [hl, this]
      simp
    rw [hr]
    have c6 : ((a0[a0.size - 1].toNat : Int) == 32) = true := beq_iff_eq.2 h4
    go_enter Tryz.func25, Tryz.ntmps25
    go_wp2
    all_goals (go_ret; exact ⟨rfl, Below.refl _ _⟩)
  have c6 : ((a0[a0.size - 1].toNat : Int) == 32) = false := beq_eq_false_iff_ne.2 h4
  have hok : (∀ (p : Nat) (h : p < a0.size), okByte a0[p] = true) → okName a0.data.toList = true := by
    intro hq
    have n0 : ¬ a0[0] = 32 := fun e => h3 (by rw [e]; rfl)
    have n1 : ¬ a0[a0.size - 1] = 32 := fun e => h4 (by rw [e]; rfl)
    unfold okName
    rw [hd, hl, hsz]
    have : a0.data.toList.all okByte = true := by
      rw [List.all_eq_true]
      intro x hx
      obtain ⟨p, hp, rfl⟩ := List.getElem_of_mem hx
      have := hq p (by omega)
      simpa [ByteArray.getElem_eq_getElem_data] using this
    rw [this]
    simp [n0, n1]
    omega
  go_enter Tryz.func25, Tryz.ntmps25
  go_wp2
  go_loopw [2] (fun v2 w' => ∃ (pos : Nat), w' = w.iter a0 pos ∧ v2 = .bool false ∧ (∀ (p : Nat) (h : p < a0.size), p < pos → okByte a0[p] = true)) (fun _ w' => a0.size - w'.iterPos w.heap.size)
  case atStart => exact ⟨0, rfl, rfl, fun p _ h => by omega⟩
  case round =>
    obtain ⟨pos, rfl, rfl, hb⟩ := hrel
    by_cases hp : pos < a0.size
    · by_cases ha : (a0[pos]'hp).toNat < 128
      · have hnx : ∀ ty, (Instr.next (.pointer (some ⟨w.heap.size, 0, none⟩)) true ty).run Tryz.prog (w.iter a0 pos) = _ := fun ty => run_next_ascii w a0 pos ty hp ha
        obtain ⟨c, hc⟩ : ∃ c : Nat, (a0[pos]'hp).toNat = c := ⟨_, rfl⟩
        have hbad : ¬ (97 ≤ c ∧ c ≤ 122 ∨ 65 ≤ c ∧ c ≤ 90 ∨ 48 ≤ c ∧ c ≤ 57 ∨ c = 32 ∨ c = 46) → okName a0.data.toList = false := fun hq => hall pos hp (by
          unfold okByte
          rw [hc]
          simp
          omega)
        have hgood : (97 ≤ c ∧ c ≤ 122 ∨ 65 ≤ c ∧ c ≤ 90 ∨ 48 ≤ c ∧ c ≤ 57 ∨ c = 32 ∨ c = 46) → okByte (a0[pos]'hp) = true := fun hq => by
          unfold okByte
          rw [hc]
          simp
          omega
        rw [hc] at hnx ha
        go_wp2
        all_goals first
          | (go_ret; refine ⟨?_, below_alloc (Below.refl _ _) _⟩; rw [hbad (by (try simp only [bne_iff_ne, ne_eq, bne_eq_false_iff_eq] at *); omega)]; rfl)
          | (go_roundw
             case measure => simp; omega
             case rel =>
               refine ⟨pos + 1, rfl, rfl, fun p h hlt => ?_⟩
               rcases Nat.lt_or_ge p pos with h5 | h5
               · exact hb p h h5
               · obtain rfl : p = pos := by omega
                 exact hgood (by (try simp only [bne_iff_ne, ne_eq, bne_eq_false_iff_eq] at *); omega))
      · obtain ⟨q1, q2⟩ := decode_high a0 pos hp (by omega)
        have hnx : ∀ ty, (Instr.next (.pointer (some ⟨w.heap.size, 0, none⟩)) true ty).run Tryz.prog (w.iter a0 pos) = _ := fun ty => run_next_any w a0 pos ty hp
        have hr : okName a0.data.toList = false := hall pos hp (by
          unfold okByte
          simp
          omega)
        obtain ⟨c, hc⟩ : ∃ c : Nat, (Utf8.decode a0 pos).1 = c := ⟨_, rfl⟩
        rw [hc] at hnx q1
        have d1 : decide ((c : Int) < 97) = false := decide_eq_false (by omega)
        have d2 : decide (122 < (c : Int)) = true := decide_eq_true (by omega)
        have d3 : decide ((c : Int) < 65) = false := decide_eq_false (by omega)
        have d4 : decide (90 < (c : Int)) = true := decide_eq_true (by omega)
        have d5 : decide ((c : Int) < 48) = false := decide_eq_false (by omega)
        have d6 : decide (57 < (c : Int)) = true := decide_eq_true (by omega)
        have d7 : ((c : Int) != 32) = true := by simp; omega
        have d8 : ((c : Int) != 46) = true := by simp; omega
        go_wp2
        all_goals (go_ret; exact ⟨by rw [hr]; rfl, below_alloc (Below.refl _ _) _⟩)
    · have hnx : ∀ ty, (Instr.next (.pointer (some ⟨w.heap.size, 0, none⟩)) true ty).run Tryz.prog (w.iter a0 pos) = _ := fun ty => run_next_end w a0 pos ty hp
      have hr := hok (fun p h => hb p h (by omega))
      go_wp2
      go_ret
      exact ⟨by rw [hr]; rfl, below_alloc (Below.refl _ _) _⟩


/-! ### transposallaw06_name: function 26 -/
theorem transposallaw06_name.ib (c : UInt8) : (decide (Lib.indexByte [97, 98, 99, 100, 101, 102, 103, 104, 105, 106, 107, 108, 109, 110, 111, 112, 113, 114, 115, 116, 117, 118, 119, 120, 121, 122, 65, 66, 67, 68, 69, 70, 71, 72, 73, 74, 75, 76, 77, 78, 79, 80, 81, 82, 83, 84, 85, 86, 87, 88, 89, 90, 48, 49, 50, 51, 52, 53, 54, 55, 56, 57, 32, 46] c < 0)) = !okByte c := by
  have h : ∀ n : Fin 256, (decide (Lib.indexByte [97, 98, 99, 100, 101, 102, 103, 104, 105, 106, 107, 108, 109, 110, 111, 112, 113, 114, 115, 116, 117, 118, 119, 120, 121, 122, 65, 66, 67, 68, 69, 70, 71, 72, 73, 74, 75, 76, 77, 78, 79, 80, 81, 82, 83, 84, 85, 86, 87, 88, 89, 90, 48, 49, 50, 51, 52, 53, 54, 55, 56, 57, 32, 46] (UInt8.ofNat n.val) < 0)) = !okByte (UInt8.ofNat n.val) := by decide +kernel
  have := h ⟨c.toNat, c.toNat_lt⟩
  simpa using this
theorem dropWhile_self (l : List UInt8) : l.dropWhile (· == 32) = l ↔ ¬ l.head? = some 32 := by
  cases l with
  | nil => simp
  | cons a t =>
    rw [List.dropWhile_cons]
    by_cases h : a = 32
    · subst h
      simp
      intro e
      have := congrArg List.length e
      have h2 := (List.dropWhile_suffix (· == (32 : UInt8)) (l := t)).length_le
      simp at this
      omega
    · simp [h]
theorem trim_self (l : List UInt8) : (Lib.trimB l 32 == l) = (!(l.head? == some 32) && !(l.getLast? == some 32)) := by
  unfold Lib.trimB Lib.trimLeftB Lib.trimRightB
  by_cases h2 : l.getLast? = some 32
  · have : ¬ (List.dropWhile (fun x => x == 32) (List.dropWhile (fun x => x == 32) l.reverse).reverse) = l := by
      intro e
      have a1 := (List.dropWhile_suffix (· == (32 : UInt8)) (l := (List.dropWhile (fun x => x == 32) l.reverse).reverse)).length_le
      rw [e] at a1
      have a2 := (List.dropWhile_suffix (· == (32 : UInt8)) (l := l.reverse)).length_le
      simp at a1 a2
      have a3 : (List.dropWhile (· == (32 : UInt8)) l.reverse) = l.reverse := (List.dropWhile_suffix (· == (32 : UInt8)) (l := l.reverse)).eq_of_length (by simp; omega)
      rw [dropWhile_self] at a3
      exact a3 (by rw [List.head?_reverse]; exact h2)
    simp [h2, this]
  · have e1 : List.dropWhile (· == (32 : UInt8)) l.reverse = l.reverse := (dropWhile_self _).2 (by rw [List.head?_reverse]; exact h2)
    rw [e1, List.reverse_reverse]
    by_cases h1 : l.head? = some 32
    · have : ¬ l.dropWhile (· == 32) = l := fun e => (dropWhile_self l).1 e h1
      simp [h1, this]
    · have : l.dropWhile (· == 32) = l := (dropWhile_self l).2 h1
      rw [this]
      simp [h1, h2]
theorem str_toList (b : ByteArray) : b.toList = b.data.toList := by
  obtain ⟨⟨l⟩⟩ := b
  exact ByteArray.toList_mk l
def transposallaw06_name.f (a0 : ByteArray) : Option Bool := if a0.size ≤ 140737488351232 then some (okName a0.data.toList) else none
theorem transposallaw06_name.IB (s : ByteArray) (c : Int) (w : World) : Calls Tryz.prog 40 #[.string s, .int .u8 c] w fun e w' => e = .returned (.int .i64 (Lib.indexByte s.data.toList c.toNat.toUInt8)) ∧ w' = w := by
  have X := Aside0.mk (Tryz.stringslite_IndexByte s c)
  go_enter Tryz.func40, Tryz.ntmps40
  go_wp2_with (go_at_call 46; refine (X.out _).mono ?_; rintro e w' ⟨rfl, rfl⟩)
  go_ret
  exact ⟨rfl, rfl⟩
set_option maxHeartbeats 8000000 in
set_option maxRecDepth 100000 in
theorem transposallaw06_name.calls (a0 : ByteArray) (r : Bool) (w : World) (h : transposallaw06_name.f a0 = some r) :
    Calls Tryz.prog 26 #[.string a0] w fun e w' => e = .returned (.bool r) ∧ Below w.heap.size w w' := by
  unfold transposallaw06_name.f at h
  split at h
  case isFalse => cases h
  rename_i hlim
  obtain rfl := Option.some.inj h
  clear h
  have hsz : a0.data.toList.length = a0.size := Array.length_toList
  have hconv : (convert 9 67 (.string a0)).run Tryz.prog w = .ok (.slice (some ⟨w.heap.size, 0, none⟩) a0.size (grownCap w a0.size 0 5)) (Lib.bytesWorld w 5 a0) := Lib.run_convert_string_bytes w 9 67 5 a0 Tryz.underlying9 Tryz.underlying67 Tryz.underlying5
  have hB : Below w.heap.size w (Lib.bytesWorld w 5 a0) := bytes_below (Below.refl _ _) (Nat.le_refl _) 5 a0
  have hi : (Tryz.prog.info? 5).map (fun i => (i.zero, i.size, i.bytes)) = some (some (.int .u8 0), 1, 1) := by kernel_rfl
  have hall : ∀ (p : Nat) (h : p < a0.size), okByte a0[p] = false → okName a0.data.toList = false := by
    intro p hp hq
    unfold okName
    have : a0.data.toList.all okByte = false := by
      rw [List.all_eq_false]
      refine ⟨a0[p], ?_, by simp [hq]⟩
      simp [ByteArray.getElem_eq_getElem_data]
    rw [this, Bool.and_false]
  go_enter Tryz.func26, Tryz.ntmps26
  go_wp2
  go_loopw [8] (fun v8 w' => ∃ (x : Nat), w' = Lib.bytesWorld w 5 a0 ∧ v8 = .int .i64 x ∧ x ≤ a0.size ∧ (∀ (p : Nat) (h : p < a0.size), p < x → okByte a0[p] = true)) (fun v8 _ => a0.size - (intOf v8).toNat)
  case atStart => exact ⟨0, rfl, rfl, Nat.zero_le _, fun p _ h => by omega⟩
  case round =>
    obtain ⟨x, rfl, rfl, hx, hb⟩ := hrel
    by_cases hp : x < a0.size
    · have hc : (Lib.bytesWorld w 5 a0).cell? ⟨w.heap.size, x, none⟩ = some (.int .u8 (a0[x].toNat : Int)) := by
        rw [Lib.bytesWorld_cell w 5 a0 x hp]
        rw [List.getD_eq_getElem?_getD, List.getElem?_eq_getElem (by omega)]
        simp [ByteArray.getElem_eq_getElem_data]
      have d0 : decide ((x : Int) < (a0.size : Int)) = true := decide_eq_true (by omega)
      have d1 : decide (x < a0.size) = true := decide_eq_true hp
      go_wp2_with (go_at_call 40; refine (transposallaw06_name.IB _ _ _).mono ?_; rintro e w1 ⟨rfl, rfl⟩)
      all_goals first
        | (rename_i hq
           go_ret
           have ho := transposallaw06_name.ib a0[x]
           rw [decide_eq_true hq] at ho
           refine ⟨?_, hB⟩
           rw [hall x hp (by simpa using ho.symm)]
           rfl)
        | (rename_i hq
           have ho := transposallaw06_name.ib a0[x]
           rw [decide_eq_false (Int.not_lt.2 hq)] at ho
           refine ⟨⟨x + 1, trivial, rfl, by omega, fun p h hlt => ?_⟩, by simp [intOf]; omega⟩
           rcases Nat.lt_or_ge p x with h5 | h5
           · exact hb p h h5
           · obtain rfl : p = x := by omega
             simpa using ho.symm)
    · have d0 : decide ((x : Int) < (a0.size : Int)) = false := decide_eq_false (by omega)
      have d1 : decide (x < a0.size) = false := decide_eq_false hp
      have hr : okName a0.data.toList = (decide (1 ≤ a0.size) && (decide (a0.size ≤ 30) && (Lib.trimB a0.data.toList 32 == a0.data.toList))) := by
        have : a0.data.toList.all okByte = true := by
          rw [List.all_eq_true]
          intro y hy
          obtain ⟨p, hp', rfl⟩ := List.getElem_of_mem hy
          have := hb p (by omega) (by omega)
          simpa [ByteArray.getElem_eq_getElem_data] using this
        rw [trim_self]
        unfold okName
        rw [this, hsz, Bool.and_true, Bool.and_assoc, Bool.and_assoc]
      by_cases s1 : 0 < a0.size
      · have e0 : decide (0 < (a0.size : Int)) = true := decide_eq_true (by omega)
        have e1 : decide (0 < a0.size) = true := decide_eq_true s1
        by_cases s2 : a0.size < 31
        · have e2 : decide ((a0.size : Int) < 31) = true := decide_eq_true (by omega)
          have e3 : decide (a0.size < 31) = true := decide_eq_true s2
          go_wp2_with (go_at_call 41; refine (Tryz.strings_Trim_one _ 32 (by decide) _ (by omega)).mono ?_; rintro e w1 ⟨rfl, hw⟩)
          go_ret
          refine ⟨?_, ?_⟩
          · rw [hr, decide_eq_true (show 1 ≤ a0.size by omega), decide_eq_true (show a0.size ≤ 30 by omega), Bool.true_and, Bool.true_and]
            rw [str_toList]
            rfl
          · rcases hw with rfl | rfl
            · exact hB
            · exact below_drew1 hB
        · have e2 : decide ((a0.size : Int) < 31) = false := decide_eq_false (by omega)
          have e3 : decide (a0.size < 31) = false := decide_eq_false s2
          go_wp2
          go_ret
          exact ⟨by rw [hr, decide_eq_false (show ¬ a0.size ≤ 30 by omega), Bool.false_and, Bool.and_false]; rfl, hB⟩
      · have e0 : decide (0 < (a0.size : Int)) = false := decide_eq_false (by omega)
        have e1 : decide (0 < a0.size) = false := decide_eq_false s1
        go_wp2
        go_ret
        exact ⟨by rw [hr, decide_eq_false (show ¬ 1 ≤ a0.size by omega), Bool.false_and]; rfl, hB⟩


/-! ### chart_Code: function 27 -/
def chart_Code.f (a0 : Int) : Option (Bool) := if a0 ≥ 1 then (some (decide (a0 ≤ 999999))) else (some false)
set_option maxHeartbeats 8000000 in
set_option maxRecDepth 100000 in
theorem chart_Code.calls (a0 : Int) (r : Bool) (w : World) (h : chart_Code.f a0 = some r) :
  Calls Tryz.prog 27 #[.int .u32 a0] w fun e w' => e = .returned (.bool r) ∧ Drawn0 w w' := by
 have H : (if a0 ≥ 1 then (some (decide (a0 ≤ 999999))) else (some false)) = some r := h
 clear h
 by_cases c2 : a0 ≥ 1
 ·rw [if_pos c2] at H
  have c2b0 : decide (1 ≤ a0) = true := decide_eq_true c2
  clear c2
  obtain rfl := Option.some.inj H
  go_enter Tryz.func27, Tryz.ntmps27
  go_wp2
  go_ret
  exact ⟨by first | rfl | (simp; done) | (simp [*]; done), by repeat (first | exact Drawn0.refl _ | apply Drawn0.step)⟩
 ·rw [if_neg c2] at H
  have c2b0 : decide (1 ≤ a0) = false := decide_eq_false c2
  clear c2
  obtain rfl := Option.some.inj H
  go_enter Tryz.func27, Tryz.ntmps27
  go_wp2
  go_ret
  exact ⟨by first | rfl | (simp; done) | (simp [*]; done), by repeat (first | exact Drawn0.refl _ | apply Drawn0.step)⟩

end Go.Proofs.YtnbdcpgaceongaaGreatDoor.XA
