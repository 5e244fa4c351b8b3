-- Written by a program of this session's (wip/xp) out of the translation; given functions by hand.
import Derived.Test.YtnbdcpgaceongaaDoorXA0
import Derived.Test.YtnbdcpgaceongaaDoorXA2
import Derived.Test.YtnbdcpgaceongaaDoorXA5
import Derived.Test.YtnbdcpgaceongaaDoorXA6
import Derived.Test.YtnbdcpgaceongaaDoorXA7
namespace Go.Proofs.YtnbdcpgaceongaaDoor.XA
open Go.RowKit Go.Proofs.YtnbdcpgaceongaaDoorW.PrintWords Go.Proofs.YtnbdcpgaceongaaDoorW.PrintLast Go.Proofs.YtnbdcpgaceongaaDoorW.PrintMore
attribute [local go_sem] max2_int min2_int max_two min_two max_three min_three max_four min_four   -- for this text's walks alone
set_option linter.unusedVariables false
set_option linter.unusedSimpArgs false

/-! ### day_Parse: function 16 -/
theorem Atoi_ok (s : ByteArray) (hs : s.size ≤ 100) (v : Int) (h : Lib.atoiAll s.data.toList = .ok v) (w : World) :
    Calls Tryd.prog 22 #[.string s] w fun e w' => e = .returned (.tuple #[.int .i64 v, .nilIface]) ∧ Below w.heap.size w w' := by
  refine (Tryd.strconv_Atoi_ok s (by omega) v h w).mono ?_
  rintro e w' ⟨rfl, hw⟩
  rcases hw with rfl | ⟨t, rfl⟩
  · exact ⟨rfl, Below.refl _ _⟩
  · exact ⟨rfl, Go.Joins.below_bytesWorld _ _ _ _ (Nat.le_refl _)⟩
theorem Atoi_no (s : ByteArray) (hs : s.size ≤ 100) (w : World) (hG : Glob w) (h : ∀ v, Lib.atoiAll s.data.toList ≠ .ok v) :
    Calls Tryd.prog 22 #[.string s] w fun e w' => ∃ n te pe, e = .returned (.tuple #[.int .i64 n, .iface te pe]) ∧ Below w.heap.size w w' := by
  rcases hx : Lib.atoiAll s.data.toList with v | _ | _
  · exact absurd hx (h v)
  · obtain ⟨te, pe, hv⟩ := hG.synErr
    refine (Any.strconv_Atoi_syntax Tryd.laysC172 s (by omega) hx _ w hv (.inr ⟨te, pe, rfl⟩)).mono ?_
    rintro e w' ⟨N, rfl, _, _, hb⟩
    exact ⟨_, _, _, rfl, hb⟩
  · obtain ⟨te, pe, hv⟩ := hG.rngErr
    refine (Tryd.strconv_Atoi_range s (by omega) hx _ w hv (.inr ⟨te, pe, rfl⟩)).mono ?_
    rintro e w' ⟨N, rfl, _, _, hb⟩
    exact ⟨_, _, _, rfl, hb⟩
theorem Atoi_any (s : ByteArray) (hs : s.size ≤ 100) (w : World) (hG : Glob w) :
    Calls Tryd.prog 22 #[.string s] w fun e w' => ∃ n ev, e = .returned (.tuple #[.int .i64 n, ev]) ∧ Below w.heap.size w w' := by
  by_cases h : ∃ v, Lib.atoiAll s.data.toList = .ok v
  · obtain ⟨v, hv⟩ := h
    refine (Atoi_ok s hs v hv w).mono ?_
    rintro e w' ⟨rfl, hb⟩
    exact ⟨_, _, rfl, hb⟩
  · refine (Atoi_no s hs w hG (fun v hv => h ⟨v, hv⟩)).mono ?_
    rintro e w' ⟨n, te, pe, rfl, hb⟩
    exact ⟨_, _, rfl, hb⟩
def day_Parse.g (k : Nat) (a0 : ByteArray) (y m d : Int) : Option (Int × Bool) :=
  (day_Of.f k y m d).bind fun t => if t.2 = true then (day_Day_Text.f k t.1).bind fun s => if s.toList = a0.toList then some (t.1, true) else some (0, false) else some (0, false)
def day_Parse.f (k : Nat) (a0 : ByteArray) : Option (Int × Bool) :=
  if a0.size = 10 ∧ bt a0 4 = 45 ∧ bt a0 7 = 45 then
    match Lib.atoiAll (a0.extract 0 4).data.toList, Lib.atoiAll (a0.extract 5 7).data.toList, Lib.atoiAll (a0.extract 8 10).data.toList with
    | .ok y, .ok m, .ok d => day_Parse.g k a0 y m d
    | _, _, _ => some (0, false)
  else some (0, false)
theorem day_Parse.mono : ∀ a0 k, LeO (day_Parse.f k a0) (day_Parse.f (k + 1) a0) := by
  intro a0 k
  unfold day_Parse.f
  refine LeO.ite ?_ (LeO.refl _)
  split
  · unfold day_Parse.g
    repeat' first
    | (with_reducible exact day_Of.mono _ _ _ _)
    | (with_reducible exact day_Day_Text.mono _ _)
    | (with_reducible exact LeO.refl _)
    | (with_reducible refine LeO.ite ?_ ?_)
    | (with_reducible refine LeO.bind ?_ (fun _ => ?_))
  · exact LeO.refl _
/-- What is known of the string where it is parsed. -/
structure ParseHead (a0 : ByteArray) : Prop where
  n : (a0.size == 10) = true
theorem day_Parse.head (a0 : ByteArray) (w : World) (h : ¬ (a0.size = 10 ∧ bt a0 4 = 45 ∧ bt a0 7 = 45)) :
    Calls Tryd.prog 16 #[.string a0] w fun e w' => e = .returned (.tuple #[.int .i32 0, .bool false]) ∧ Drawn0 w w' := by
  by_cases h1 : a0.size = 10
  · have c1 : ((a0.size : Int) == 10) = true := beq_iff_eq.mpr (by omega)
    have c2 : ((a0.size : Int) != 10) = false := bne_eq_false_iff_eq.mpr (by omega)
    have c3 : (4 < (a0.size : Int)) = True := eq_true (by omega)
    have c4 : (7 < (a0.size : Int)) = True := eq_true (by omega)
    have c5 : (4 < a0.size) = True := eq_true (by omega)
    have c6 : (7 < a0.size) = True := eq_true (by omega)
    have x4 : ∀ h : 4 < a0.size, ((a0[4]'h).toNat : Int) = bt a0 4 := bt_at a0 4
    have x7 : ∀ h : 7 < a0.size, ((a0[7]'h).toNat : Int) = bt a0 7 := bt_at a0 7
    by_cases h2 : bt a0 4 = 45
    · have d1 : (bt a0 4 == 45) = true := beq_iff_eq.mpr h2
      have d2 : (bt a0 4 != 45) = false := bne_eq_false_iff_eq.mpr h2
      have h3 : ¬ bt a0 7 = 45 := fun h3 => h ⟨h1, h2, h3⟩
      have d3 : (bt a0 7 == 45) = false := beq_eq_false_iff_ne.mpr h3
      have d4 : (bt a0 7 != 45) = true := bne_iff_ne.mpr h3
      clear h h1 h2 h3
      go_enter Tryd.func16, Tryd.ntmps16
      go_wp2
      repeat (go_quiet (fail); try go_wp2)
      go_ret2
      exact ⟨by first | rfl | (simp; done) | (simp [*]; done), by repeat (first | exact Drawn0.refl _ | apply Drawn0.step)⟩
    · have d1 : (bt a0 4 == 45) = false := beq_eq_false_iff_ne.mpr h2
      have d2 : (bt a0 4 != 45) = true := bne_iff_ne.mpr h2
      clear h h1 h2
      go_enter Tryd.func16, Tryd.ntmps16
      go_wp2
      repeat (go_quiet (fail); try go_wp2)
      go_ret2
      exact ⟨by first | rfl | (simp; done) | (simp [*]; done), by repeat (first | exact Drawn0.refl _ | apply Drawn0.step)⟩
  · have c1 : ((a0.size : Int) == 10) = false := beq_eq_false_iff_ne.mpr (by omega)
    have c2 : ((a0.size : Int) != 10) = true := bne_iff_ne.mpr (by omega)
    clear h h1
    go_enter Tryd.func16, Tryd.ntmps16
    go_wp2
    repeat (go_quiet (fail); try go_wp2)
    go_ret2
    exact ⟨by first | rfl | (simp; done) | (simp [*]; done), by repeat (first | exact Drawn0.refl _ | apply Drawn0.step)⟩
theorem size_extract10 (a0 : ByteArray) (h : a0.size = 10) (i j : Nat) : (a0.extract i j).size ≤ 100 := by
  simp [ByteArray.size_extract]; omega
set_option maxHeartbeats 8000000 in
set_option maxRecDepth 100000 in
theorem day_Parse.yes (k : Nat) (a0 : ByteArray) (r1 : Int) (r2 : Bool) (w : World) (hG : Glob w) (h1 : a0.size = 10) (h2 : bt a0 4 = 45) (h3 : bt a0 7 = 45) (y m d : Int)
    (hy : Lib.atoiAll (a0.extract 0 4).data.toList = .ok y) (hm : Lib.atoiAll (a0.extract 5 7).data.toList = .ok m) (hd : Lib.atoiAll (a0.extract 8 10).data.toList = .ok d) (h : day_Parse.g k a0 y m d = some (r1, r2)) :
    Calls Tryd.prog 16 #[.string a0] w fun e w' => e = .returned (.tuple #[.int .i32 r1, .bool r2]) ∧ Below w.heap.size w w' := by
  have c1 : ((a0.size : Int) == 10) = true := beq_iff_eq.mpr (by omega)
  have c2 : ((a0.size : Int) != 10) = false := bne_eq_false_iff_eq.mpr (by omega)
  have c3 : (4 < (a0.size : Int)) = True := eq_true (by omega)
  have c4 : (7 < (a0.size : Int)) = True := eq_true (by omega)
  have c5 : (4 < a0.size) = True := eq_true (by omega)
  have c6 : (7 < a0.size) = True := eq_true (by omega)
  have c7 : 4 ≤ a0.size := by omega
  have c8 : 7 ≤ a0.size := by omega
  have c9 : 8 ≤ a0.size := by omega
  have e7 : ((7 : Int) ≤ (a0.size : Int)) = True := eq_true (by omega)
  have e8 : ((8 : Int) ≤ (a0.size : Int)) = True := eq_true (by omega)
  have x4 : ∀ h : 4 < a0.size, ((a0[4]'h).toNat : Int) = bt a0 4 := bt_at a0 4
  have x7 : ∀ h : 7 < a0.size, ((a0[7]'h).toNat : Int) = bt a0 7 := bt_at a0 7
  have d1 : (bt a0 4 == 45) = true := beq_iff_eq.mpr h2
  have d2 : (bt a0 4 != 45) = false := bne_eq_false_iff_eq.mpr h2
  have d3 : (bt a0 7 == 45) = true := beq_iff_eq.mpr h3
  have d4 : (bt a0 7 != 45) = false := bne_eq_false_iff_eq.mpr h3
  have Y := Aside0.mk (Atoi_ok _ (size_extract10 a0 h1 0 4) y hy)
  have M := Aside0.mk (Atoi_ok _ (size_extract10 a0 h1 5 7) m hm)
  have D : Aside0 (∀ w, Calls Tryd.prog 22 #[.string (a0.extract 8 a0.size)] w fun e w' => e = .returned (.tuple #[.int .i64 d, .nilIface]) ∧ Below w.heap.size w w') := by
    rw [h1]; exact ⟨Atoi_ok _ (size_extract10 a0 h1 8 10) d hd⟩
  have HB := Aside0.mk (Below.refl w.heap.size w)
  have HG := Aside0.mk hG
  have H := Aside0.mk h
  clear h1 h2 h3 hy hm hd hG h
  go_enter Tryd.func16, Tryd.ntmps16
  go_wp2_with fail
  refine (Y.out _).mono ?_
  rintro e w1 ⟨rfl, hb⟩
  have n0_ := Aside0.mk (below_step (by repeat (first | exact HB.out | apply below_alloc | apply pw_below_drewN | apply below_drew1)) hb); clear HB hb; have HB := n0_; clear n0_
  go_wp2_with fail

  refine (M.out _).mono ?_
  rintro e w2 ⟨rfl, hb⟩
  have n0_ := Aside0.mk (below_step (by repeat (first | exact HB.out | apply below_alloc | apply pw_below_drewN | apply below_drew1)) hb); clear HB hb; have HB := n0_; clear n0_
  go_wp2_with fail
  refine (D.out _).mono ?_
  rintro e w3 ⟨rfl, hb⟩
  have n0_ := Aside0.mk (below_step (by repeat (first | exact HB.out | apply below_alloc | apply pw_below_drewN | apply below_drew1)) hb); clear HB hb; have HB := n0_; clear n0_
  obtain ⟨⟨n, b⟩, ho, h⟩ := Option.bind_eq_some_iff.mp H.out
  clear H
  cases b
  · have H := Option.some.inj h
    injection H with H1 H2
    subst H1 H2
    have A1 := Aside0.mk ho
    clear ho h
    go_wp2_with (go_at_call 13; refine (day_Of.calls k y m d n false _ (Glob.below (by repeat (first | exact HB.out | apply below_alloc | apply pw_below_drewN | apply below_drew1)) HG.out) A1.out).mono ?_; rintro e w' ⟨rfl, ⟨nd, rfl⟩⟩)
    go_ret2
    exact ⟨rfl, by repeat (first | exact HB.out | apply below_alloc | apply pw_below_drewN | apply below_drew1)⟩
  · rw [if_pos rfl] at h
    obtain ⟨s, hs, h⟩ := Option.bind_eq_some_iff.mp h
    have A1 := Aside0.mk ho
    have A2 := Aside0.mk hs
    clear ho hs
    by_cases hc : s.toList = a0.toList
    · rw [if_pos hc] at h
      have H := Option.some.inj h
      injection H with H1 H2
      subst H1 H2
      have f1 : (s.toList == a0.toList) = true := by simpa using hc
      have f2 : (s.toList != a0.toList) = false := by simpa using hc
      clear hc h
      go_wp2_with (first | (go_at_call 13; refine (day_Of.calls k y m d n true _ (Glob.below (by repeat (first | exact HB.out | apply below_alloc | apply pw_below_drewN | apply below_drew1)) HG.out) A1.out).mono ?_; rintro e w' ⟨rfl, ⟨nd, rfl⟩⟩) | (go_at_call 11; refine (day_Day_Text.calls k n s _ (Glob.below (by repeat (first | exact HB.out | apply below_alloc | apply pw_below_drewN | apply below_drew1)) HG.out) A2.out).mono ?_; rintro e w' ⟨rfl, hb⟩; have n0_ := Aside0.mk (below_step (by repeat (first | exact HB.out | apply below_alloc | apply pw_below_drewN | apply below_drew1)) hb); clear HB hb; have HB := n0_; clear n0_))
      go_ret2
      exact ⟨rfl, by repeat (first | exact HB.out | apply below_alloc | apply pw_below_drewN | apply below_drew1)⟩
    · rw [if_neg hc] at h
      have H := Option.some.inj h
      injection H with H1 H2
      subst H1 H2
      have f1 : (s.toList == a0.toList) = false := by simpa using hc
      have f2 : (s.toList != a0.toList) = true := by simpa using hc
      clear hc h
      go_wp2_with (first | (go_at_call 13; refine (day_Of.calls k y m d n true _ (Glob.below (by repeat (first | exact HB.out | apply below_alloc | apply pw_below_drewN | apply below_drew1)) HG.out) A1.out).mono ?_; rintro e w' ⟨rfl, ⟨nd, rfl⟩⟩) | (go_at_call 11; refine (day_Day_Text.calls k n s _ (Glob.below (by repeat (first | exact HB.out | apply below_alloc | apply pw_below_drewN | apply below_drew1)) HG.out) A2.out).mono ?_; rintro e w' ⟨rfl, hb⟩; have n0_ := Aside0.mk (below_step (by repeat (first | exact HB.out | apply below_alloc | apply pw_below_drewN | apply below_drew1)) hb); clear HB hb; have HB := n0_; clear n0_))
      go_ret2
      exact ⟨rfl, by repeat (first | exact HB.out | apply below_alloc | apply pw_below_drewN | apply below_drew1)⟩
set_option maxHeartbeats 8000000 in
set_option maxRecDepth 100000 in
theorem day_Parse.no1 (a0 : ByteArray) (w : World) (hG : Glob w) (h1 : a0.size = 10) (h2 : bt a0 4 = 45) (h3 : bt a0 7 = 45) (h : ∀ v, Lib.atoiAll (a0.extract 0 4).data.toList ≠ .ok v) :
    Calls Tryd.prog 16 #[.string a0] w fun e w' => e = .returned (.tuple #[.int .i32 0, .bool false]) ∧ Below w.heap.size w w' := by
  have c1 : ((a0.size : Int) == 10) = true := beq_iff_eq.mpr (by omega)
  have c2 : ((a0.size : Int) != 10) = false := bne_eq_false_iff_eq.mpr (by omega)
  have c3 : (4 < (a0.size : Int)) = True := eq_true (by omega)
  have c4 : (7 < (a0.size : Int)) = True := eq_true (by omega)
  have c5 : (4 < a0.size) = True := eq_true (by omega)
  have c6 : (7 < a0.size) = True := eq_true (by omega)
  have c7 : 4 ≤ a0.size := by omega
  have c8 : 7 ≤ a0.size := by omega
  have c9 : 8 ≤ a0.size := by omega
  have e7 : ((7 : Int) ≤ (a0.size : Int)) = True := eq_true (by omega)
  have e8 : ((8 : Int) ≤ (a0.size : Int)) = True := eq_true (by omega)
  have x4 : ∀ h : 4 < a0.size, ((a0[4]'h).toNat : Int) = bt a0 4 := bt_at a0 4
  have x7 : ∀ h : 7 < a0.size, ((a0[7]'h).toNat : Int) = bt a0 7 := bt_at a0 7
  have d1 : (bt a0 4 == 45) = true := beq_iff_eq.mpr h2
  have d2 : (bt a0 4 != 45) = false := bne_eq_false_iff_eq.mpr h2
  have d3 : (bt a0 7 == 45) = true := beq_iff_eq.mpr h3
  have d4 : (bt a0 7 != 45) = false := bne_eq_false_iff_eq.mpr h3
  have Y : Aside0 (∀ w, Glob w → Calls Tryd.prog 22 #[.string (a0.extract 0 4)] w fun e w' => ∃ n te pe, e = .returned (.tuple #[.int .i64 n, .iface te pe]) ∧ Below w.heap.size w w') := by
    exact ⟨(fun w' hg => Atoi_no _ (size_extract10 a0 h1 0 4) w' hg h)⟩
  have M : Aside0 (∀ w, Glob w → Calls Tryd.prog 22 #[.string (a0.extract 5 7)] w fun e w' => ∃ n ev, e = .returned (.tuple #[.int .i64 n, ev]) ∧ Below w.heap.size w w') := by
    exact ⟨(fun w' hg => Atoi_any _ (size_extract10 a0 h1 5 7) w' hg)⟩
  have D : Aside0 (∀ w, Glob w → Calls Tryd.prog 22 #[.string (a0.extract 8 a0.size)] w fun e w' => ∃ n ev, e = .returned (.tuple #[.int .i64 n, ev]) ∧ Below w.heap.size w w') := by
    rw [h1]; exact ⟨(fun w' hg => Atoi_any _ (size_extract10 a0 h1 8 10) w' hg)⟩
  have HB := Aside0.mk (Below.refl w.heap.size w)
  have HG := Aside0.mk hG
  clear h1 h2 h3 hG h
  go_enter Tryd.func16, Tryd.ntmps16
  go_wp2_with fail
  refine (Y.out _ (Glob.below (by repeat (first | exact HB.out | apply below_alloc | apply pw_below_drewN | apply below_drew1)) HG.out)).mono ?_
  rintro e w1 ⟨n1, te, pe, rfl, hb⟩
  have n0_ := Aside0.mk (below_step (by repeat (first | exact HB.out | apply below_alloc | apply pw_below_drewN | apply below_drew1)) hb); clear HB hb; have HB := n0_; clear n0_
  go_wp2_with fail
  refine (M.out _ (Glob.below (by repeat (first | exact HB.out | apply below_alloc | apply pw_below_drewN | apply below_drew1)) HG.out)).mono ?_
  rintro e w2 ⟨n2, ev2, rfl, hb⟩
  have n0_ := Aside0.mk (below_step (by repeat (first | exact HB.out | apply below_alloc | apply pw_below_drewN | apply below_drew1)) hb); clear HB hb; have HB := n0_; clear n0_
  go_wp2_with fail
  refine (D.out _ (Glob.below (by repeat (first | exact HB.out | apply below_alloc | apply pw_below_drewN | apply below_drew1)) HG.out)).mono ?_
  rintro e w3 ⟨n3, ev3, rfl, hb⟩
  have n0_ := Aside0.mk (below_step (by repeat (first | exact HB.out | apply below_alloc | apply pw_below_drewN | apply below_drew1)) hb); clear HB hb; have HB := n0_; clear n0_
  go_wp2
  repeat (go_quiet (fail); try go_wp2)
  go_ret2
  exact ⟨rfl, (by repeat (first | exact HB.out | apply below_alloc | apply pw_below_drewN | apply below_drew1))⟩
set_option maxHeartbeats 8000000 in
set_option maxRecDepth 100000 in
theorem day_Parse.no2 (a0 : ByteArray) (w : World) (hG : Glob w) (h1 : a0.size = 10) (h2 : bt a0 4 = 45) (h3 : bt a0 7 = 45) (y : Int) (hy : Lib.atoiAll (a0.extract 0 4).data.toList = .ok y) (h : ∀ v, Lib.atoiAll (a0.extract 5 7).data.toList ≠ .ok v) :
    Calls Tryd.prog 16 #[.string a0] w fun e w' => e = .returned (.tuple #[.int .i32 0, .bool false]) ∧ Below w.heap.size w w' := by
  have c1 : ((a0.size : Int) == 10) = true := beq_iff_eq.mpr (by omega)
  have c2 : ((a0.size : Int) != 10) = false := bne_eq_false_iff_eq.mpr (by omega)
  have c3 : (4 < (a0.size : Int)) = True := eq_true (by omega)
  have c4 : (7 < (a0.size : Int)) = True := eq_true (by omega)
  have c5 : (4 < a0.size) = True := eq_true (by omega)
  have c6 : (7 < a0.size) = True := eq_true (by omega)
  have c7 : 4 ≤ a0.size := by omega
  have c8 : 7 ≤ a0.size := by omega
  have c9 : 8 ≤ a0.size := by omega
  have e7 : ((7 : Int) ≤ (a0.size : Int)) = True := eq_true (by omega)
  have e8 : ((8 : Int) ≤ (a0.size : Int)) = True := eq_true (by omega)
  have x4 : ∀ h : 4 < a0.size, ((a0[4]'h).toNat : Int) = bt a0 4 := bt_at a0 4
  have x7 : ∀ h : 7 < a0.size, ((a0[7]'h).toNat : Int) = bt a0 7 := bt_at a0 7
  have d1 : (bt a0 4 == 45) = true := beq_iff_eq.mpr h2
  have d2 : (bt a0 4 != 45) = false := bne_eq_false_iff_eq.mpr h2
  have d3 : (bt a0 7 == 45) = true := beq_iff_eq.mpr h3
  have d4 : (bt a0 7 != 45) = false := bne_eq_false_iff_eq.mpr h3
  have Y := Aside0.mk (Atoi_ok _ (size_extract10 a0 h1 0 4) y hy)
  have M : Aside0 (∀ w, Glob w → Calls Tryd.prog 22 #[.string (a0.extract 5 7)] w fun e w' => ∃ n te pe, e = .returned (.tuple #[.int .i64 n, .iface te pe]) ∧ Below w.heap.size w w') := by
    exact ⟨(fun w' hg => Atoi_no _ (size_extract10 a0 h1 5 7) w' hg h)⟩
  have D : Aside0 (∀ w, Glob w → Calls Tryd.prog 22 #[.string (a0.extract 8 a0.size)] w fun e w' => ∃ n ev, e = .returned (.tuple #[.int .i64 n, ev]) ∧ Below w.heap.size w w') := by
    rw [h1]; exact ⟨(fun w' hg => Atoi_any _ (size_extract10 a0 h1 8 10) w' hg)⟩
  have HB := Aside0.mk (Below.refl w.heap.size w)
  have HG := Aside0.mk hG
  clear h1 h2 h3 hy hG h
  go_enter Tryd.func16, Tryd.ntmps16
  go_wp2_with fail
  refine (Y.out _).mono ?_
  rintro e w1 ⟨rfl, hb⟩
  have n0_ := Aside0.mk (below_step (by repeat (first | exact HB.out | apply below_alloc | apply pw_below_drewN | apply below_drew1)) hb); clear HB hb; have HB := n0_; clear n0_
  go_wp2_with fail
  refine (M.out _ (Glob.below (by repeat (first | exact HB.out | apply below_alloc | apply pw_below_drewN | apply below_drew1)) HG.out)).mono ?_
  rintro e w2 ⟨n2, te, pe, rfl, hb⟩
  have n0_ := Aside0.mk (below_step (by repeat (first | exact HB.out | apply below_alloc | apply pw_below_drewN | apply below_drew1)) hb); clear HB hb; have HB := n0_; clear n0_
  go_wp2_with fail
  refine (D.out _ (Glob.below (by repeat (first | exact HB.out | apply below_alloc | apply pw_below_drewN | apply below_drew1)) HG.out)).mono ?_
  rintro e w3 ⟨n3, ev3, rfl, hb⟩
  have n0_ := Aside0.mk (below_step (by repeat (first | exact HB.out | apply below_alloc | apply pw_below_drewN | apply below_drew1)) hb); clear HB hb; have HB := n0_; clear n0_
  go_wp2
  repeat (go_quiet (fail); try go_wp2)
  go_ret2
  exact ⟨rfl, (by repeat (first | exact HB.out | apply below_alloc | apply pw_below_drewN | apply below_drew1))⟩
set_option maxHeartbeats 8000000 in
set_option maxRecDepth 100000 in
theorem day_Parse.no3 (a0 : ByteArray) (w : World) (hG : Glob w) (h1 : a0.size = 10) (h2 : bt a0 4 = 45) (h3 : bt a0 7 = 45) (y m : Int) (hy : Lib.atoiAll (a0.extract 0 4).data.toList = .ok y) (hm : Lib.atoiAll (a0.extract 5 7).data.toList = .ok m) (h : ∀ v, Lib.atoiAll (a0.extract 8 10).data.toList ≠ .ok v) :
    Calls Tryd.prog 16 #[.string a0] w fun e w' => e = .returned (.tuple #[.int .i32 0, .bool false]) ∧ Below w.heap.size w w' := by
  have c1 : ((a0.size : Int) == 10) = true := beq_iff_eq.mpr (by omega)
  have c2 : ((a0.size : Int) != 10) = false := bne_eq_false_iff_eq.mpr (by omega)
  have c3 : (4 < (a0.size : Int)) = True := eq_true (by omega)
  have c4 : (7 < (a0.size : Int)) = True := eq_true (by omega)
  have c5 : (4 < a0.size) = True := eq_true (by omega)
  have c6 : (7 < a0.size) = True := eq_true (by omega)
  have c7 : 4 ≤ a0.size := by omega
  have c8 : 7 ≤ a0.size := by omega
  have c9 : 8 ≤ a0.size := by omega
  have e7 : ((7 : Int) ≤ (a0.size : Int)) = True := eq_true (by omega)
  have e8 : ((8 : Int) ≤ (a0.size : Int)) = True := eq_true (by omega)
  have x4 : ∀ h : 4 < a0.size, ((a0[4]'h).toNat : Int) = bt a0 4 := bt_at a0 4
  have x7 : ∀ h : 7 < a0.size, ((a0[7]'h).toNat : Int) = bt a0 7 := bt_at a0 7
  have d1 : (bt a0 4 == 45) = true := beq_iff_eq.mpr h2
  have d2 : (bt a0 4 != 45) = false := bne_eq_false_iff_eq.mpr h2
  have d3 : (bt a0 7 == 45) = true := beq_iff_eq.mpr h3
  have d4 : (bt a0 7 != 45) = false := bne_eq_false_iff_eq.mpr h3
  have Y := Aside0.mk (Atoi_ok _ (size_extract10 a0 h1 0 4) y hy)
  have M := Aside0.mk (Atoi_ok _ (size_extract10 a0 h1 5 7) m hm)
  have D : Aside0 (∀ w, Glob w → Calls Tryd.prog 22 #[.string (a0.extract 8 a0.size)] w fun e w' => ∃ n te pe, e = .returned (.tuple #[.int .i64 n, .iface te pe]) ∧ Below w.heap.size w w') := by
    rw [h1]; exact ⟨(fun w' hg => Atoi_no _ (size_extract10 a0 h1 8 10) w' hg h)⟩
  have HB := Aside0.mk (Below.refl w.heap.size w)
  have HG := Aside0.mk hG
  clear h1 h2 h3 hy hm hG h
  go_enter Tryd.func16, Tryd.ntmps16
  go_wp2_with fail
  refine (Y.out _).mono ?_
  rintro e w1 ⟨rfl, hb⟩
  have n0_ := Aside0.mk (below_step (by repeat (first | exact HB.out | apply below_alloc | apply pw_below_drewN | apply below_drew1)) hb); clear HB hb; have HB := n0_; clear n0_
  go_wp2_with fail
  refine (M.out _).mono ?_
  rintro e w2 ⟨rfl, hb⟩
  have n0_ := Aside0.mk (below_step (by repeat (first | exact HB.out | apply below_alloc | apply pw_below_drewN | apply below_drew1)) hb); clear HB hb; have HB := n0_; clear n0_
  go_wp2_with fail
  refine (D.out _ (Glob.below (by repeat (first | exact HB.out | apply below_alloc | apply pw_below_drewN | apply below_drew1)) HG.out)).mono ?_
  rintro e w3 ⟨n3, te, pe, rfl, hb⟩
  have n0_ := Aside0.mk (below_step (by repeat (first | exact HB.out | apply below_alloc | apply pw_below_drewN | apply below_drew1)) hb); clear HB hb; have HB := n0_; clear n0_
  go_wp2
  repeat (go_quiet (fail); try go_wp2)
  go_ret2
  exact ⟨rfl, (by repeat (first | exact HB.out | apply below_alloc | apply pw_below_drewN | apply below_drew1))⟩
theorem day_Parse.calls (k : Nat) (a0 : ByteArray) (r1 : Int) (r2 : Bool) (w : World) (hG : Glob w) (h : day_Parse.f k a0 = some (r1, r2)) :
    Calls Tryd.prog 16 #[.string a0] w fun e w' => e = .returned (.tuple #[.int .i32 r1, .bool r2]) ∧ Below w.heap.size w w' := by
  unfold day_Parse.f at h
  by_cases h0 : a0.size = 10 ∧ bt a0 4 = 45 ∧ bt a0 7 = 45
  · rw [if_pos h0] at h
    obtain ⟨h1, h2, h3⟩ := h0
    by_cases p1 : ∃ y, Lib.atoiAll (a0.extract 0 4).data.toList = .ok y
    · obtain ⟨y, hy⟩ := p1
      by_cases p2 : ∃ m, Lib.atoiAll (a0.extract 5 7).data.toList = .ok m
      · obtain ⟨m, hm⟩ := p2
        by_cases p3 : ∃ d, Lib.atoiAll (a0.extract 8 10).data.toList = .ok d
        · obtain ⟨d, hd⟩ := p3
          rw [hy, hm, hd] at h
          exact day_Parse.yes k a0 r1 r2 w hG h1 h2 h3 y m d hy hm hd h
        · have hn : ∀ v, Lib.atoiAll (a0.extract 8 10).data.toList ≠ .ok v := fun v hv => p3 ⟨v, hv⟩
          have e : some ((0 : Int), false) = some (r1, r2) := by
            rw [← h]
            split
            · rename_i hd
              exact absurd hd (hn _)
            · rfl
          injection Option.some.inj e with H1 H2
          subst H1 H2
          exact day_Parse.no3 a0 w hG h1 h2 h3 y m hy hm hn
      · have hn : ∀ v, Lib.atoiAll (a0.extract 5 7).data.toList ≠ .ok v := fun v hv => p2 ⟨v, hv⟩
        have e : some ((0 : Int), false) = some (r1, r2) := by
          rw [← h]
          split
          · rename_i hm _
            exact absurd hm (hn _)
          · rfl
        injection Option.some.inj e with H1 H2
        subst H1 H2
        exact day_Parse.no2 a0 w hG h1 h2 h3 y hy hn
    · have hn : ∀ v, Lib.atoiAll (a0.extract 0 4).data.toList ≠ .ok v := fun v hv => p1 ⟨v, hv⟩
      have e : some ((0 : Int), false) = some (r1, r2) := by
        rw [← h]
        split
        · rename_i hy _ _
          exact absurd hy (hn _)
        · rfl
      injection Option.some.inj e with H1 H2
      subst H1 H2
      exact day_Parse.no1 a0 w hG h1 h2 h3 hn
  · rw [if_neg h0] at h
    have H := Option.some.inj h
    injection H with H1 H2
    subst H1 H2
    refine (day_Parse.head a0 w h0).mono ?_
    rintro e w' ⟨rfl, hd⟩
    exact ⟨rfl, hd.below⟩


/-! ### transposallaw04_DayOf: function 6 -/
def transposallaw04_DayOf.f (k : Nat) (a0 : Int) (a1 : Int) (a2 : Int) : Option (Bool) := (transposallaw04_Awake.f k).bind fun t248 => (if t248 = true then ((day_Of.f k (wrap64 (a0)) (wrap64 (a1)) (wrap64 (a2))).bind fun bt249 => ((transposallaw04_Right.f k (wrap64 (a0)) (wrap64 (a1)) (wrap64 (a2))).bind fun t251 => (if t251 = true then ((day_Day_Date.f k bt249.1).bind fun bt252 => ((transposallaw04_digits.f (wrap64 (a0)) 4).bind fun t255 => (if t255.size + 1 ≤ 9223372036854775807 then ((transposallaw04_digits.f (wrap64 (a1)) 2).bind fun t256 => (if (t255 ++ (⟨#[45]⟩ : ByteArray)).size + t256.size ≤ 9223372036854775807 then (if ((t255 ++ (⟨#[45]⟩ : ByteArray)) ++ t256).size + 1 ≤ 9223372036854775807 then ((transposallaw04_digits.f (wrap64 (a2)) 2).bind fun t257 => (if (((t255 ++ (⟨#[45]⟩ : ByteArray)) ++ t256) ++ (⟨#[45]⟩ : ByteArray)).size + t257.size ≤ 9223372036854775807 then ((day_Parse.f k ((((t255 ++ (⟨#[45]⟩ : ByteArray)) ++ t256) ++ (⟨#[45]⟩ : ByteArray)) ++ t257)).bind fun bt258 => (if bt249.2 = true then ((transposallaw04_Number.f k (wrap64 (a0)) (wrap64 (a1)) (wrap64 (a2))).bind fun t260 => (if (wrap64 (bt249.1)) = t260 then (if bt252.1 = (wrap64 (a0)) then (if bt252.2.1 = (wrap64 (a1)) then (if bt252.2.2 = (wrap64 (a2)) then ((day_Day_Text.f k bt249.1).bind fun t261 => (if t261.toList = ((((t255 ++ (⟨#[45]⟩ : ByteArray)) ++ t256) ++ (⟨#[45]⟩ : ByteArray)) ++ t257).toList then (if bt258.2 = true then (some (bt258.1 == bt249.1)) else (some false)) else (some false))) else (some false)) else (some false)) else (some false)) else (some false))) else (some false))) else (none))) else (none)) else (none))) else (none)))) else (if bt249.2 = true then (some false) else (some (bt249.1 == 0)))))) else (some false))
theorem transposallaw04_DayOf.mono : ∀ a0 a1 a2 k, LeO (transposallaw04_DayOf.f k a0 a1 a2) (transposallaw04_DayOf.f (k + 1) a0 a1 a2) := by
  intro a0 a1 a2 k
  unfold transposallaw04_DayOf.f
  repeat' first
      | (with_reducible exact day_Day_Date.mono _ _)
      | (with_reducible exact day_Day_Text.mono _ _)
      | (with_reducible exact day_Of.mono _ _ _ _)
      | (with_reducible exact day_Parse.mono _ _)
      | (with_reducible exact transposallaw04_Awake.mono _)
      | (with_reducible exact transposallaw04_Number.mono _ _ _ _)
      | (with_reducible exact transposallaw04_Right.mono _ _ _ _)
      | (with_reducible exact LeO.refl _)
      | (with_reducible exact LeO.none _)
      | (with_reducible refine LeO.ite ?_ ?_)
      | (with_reducible refine LeO.bind ?_ (fun _ => ?_))
      | exact day_Day_Date.mono _ _
      | exact day_Day_Text.mono _ _
      | exact day_Of.mono _ _ _ _
      | exact day_Parse.mono _ _
      | exact transposallaw04_Awake.mono _
      | exact transposallaw04_Number.mono _ _ _ _
      | exact transposallaw04_Right.mono _ _ _ _
      | exact LeO.none _
      | refine LeO.ite ?_ ?_
      | refine LeO.bind ?_ (fun _ => ?_)
set_option maxHeartbeats 8000000 in
set_option maxRecDepth 100000 in
theorem transposallaw04_DayOf.calls (k : Nat) (a0 : Int) (a1 : Int) (a2 : Int) (r : Bool) (w : World) (hG : Glob w) (h : transposallaw04_DayOf.f k a0 a1 a2 = some r) :
    Calls Tryd.prog 6 #[.int .i16 a0, .int .i16 a1, .int .i16 a2] w fun e w' => e = .returned (.bool r) ∧ Below w.heap.size w w' := by
  have HG := Aside0.mk hG
  clear hG
  have HB := Aside0.mk (Below.refl w.heap.size w)
  have H : ((transposallaw04_Awake.f k).bind fun t248 => (if t248 = true then ((day_Of.f k (wrap64 (a0)) (wrap64 (a1)) (wrap64 (a2))).bind fun bt249 => ((transposallaw04_Right.f k (wrap64 (a0)) (wrap64 (a1)) (wrap64 (a2))).bind fun t251 => (if t251 = true then ((day_Day_Date.f k bt249.1).bind fun bt252 => ((transposallaw04_digits.f (wrap64 (a0)) 4).bind fun t255 => (if t255.size + 1 ≤ 9223372036854775807 then ((transposallaw04_digits.f (wrap64 (a1)) 2).bind fun t256 => (if (t255 ++ (⟨#[45]⟩ : ByteArray)).size + t256.size ≤ 9223372036854775807 then (if ((t255 ++ (⟨#[45]⟩ : ByteArray)) ++ t256).size + 1 ≤ 9223372036854775807 then ((transposallaw04_digits.f (wrap64 (a2)) 2).bind fun t257 => (if (((t255 ++ (⟨#[45]⟩ : ByteArray)) ++ t256) ++ (⟨#[45]⟩ : ByteArray)).size + t257.size ≤ 9223372036854775807 then ((day_Parse.f k ((((t255 ++ (⟨#[45]⟩ : ByteArray)) ++ t256) ++ (⟨#[45]⟩ : ByteArray)) ++ t257)).bind fun bt258 => (if bt249.2 = true then ((transposallaw04_Number.f k (wrap64 (a0)) (wrap64 (a1)) (wrap64 (a2))).bind fun t260 => (if (wrap64 (bt249.1)) = t260 then (if bt252.1 = (wrap64 (a0)) then (if bt252.2.1 = (wrap64 (a1)) then (if bt252.2.2 = (wrap64 (a2)) then ((day_Day_Text.f k bt249.1).bind fun t261 => (if t261.toList = ((((t255 ++ (⟨#[45]⟩ : ByteArray)) ++ t256) ++ (⟨#[45]⟩ : ByteArray)) ++ t257).toList then (if bt258.2 = true then (some (bt258.1 == bt249.1)) else (some false)) else (some false))) else (some false)) else (some false)) else (some false)) else (some false))) else (some false))) else (none))) else (none)) else (none))) else (none)))) else (if bt249.2 = true then (some false) else (some (bt249.1 == 0)))))) else (some false))) = some r := h
  clear h
  replace H := Option.bind_eq_some_iff.mp H
  obtain ⟨t248, A40, H⟩ := H
  replace H : (if t248 = true then ((day_Of.f k (wrap64 (a0)) (wrap64 (a1)) (wrap64 (a2))).bind fun bt249 => ((transposallaw04_Right.f k (wrap64 (a0)) (wrap64 (a1)) (wrap64 (a2))).bind fun t251 => (if t251 = true then ((day_Day_Date.f k bt249.1).bind fun bt252 => ((transposallaw04_digits.f (wrap64 (a0)) 4).bind fun t255 => (if t255.size + 1 ≤ 9223372036854775807 then ((transposallaw04_digits.f (wrap64 (a1)) 2).bind fun t256 => (if (t255 ++ (⟨#[45]⟩ : ByteArray)).size + t256.size ≤ 9223372036854775807 then (if ((t255 ++ (⟨#[45]⟩ : ByteArray)) ++ t256).size + 1 ≤ 9223372036854775807 then ((transposallaw04_digits.f (wrap64 (a2)) 2).bind fun t257 => (if (((t255 ++ (⟨#[45]⟩ : ByteArray)) ++ t256) ++ (⟨#[45]⟩ : ByteArray)).size + t257.size ≤ 9223372036854775807 then ((day_Parse.f k ((((t255 ++ (⟨#[45]⟩ : ByteArray)) ++ t256) ++ (⟨#[45]⟩ : ByteArray)) ++ t257)).bind fun bt258 => (if bt249.2 = true then ((transposallaw04_Number.f k (wrap64 (a0)) (wrap64 (a1)) (wrap64 (a2))).bind fun t260 => (if (wrap64 (bt249.1)) = t260 then (if bt252.1 = (wrap64 (a0)) then (if bt252.2.1 = (wrap64 (a1)) then (if bt252.2.2 = (wrap64 (a2)) then ((day_Day_Text.f k bt249.1).bind fun t261 => (if t261.toList = ((((t255 ++ (⟨#[45]⟩ : ByteArray)) ++ t256) ++ (⟨#[45]⟩ : ByteArray)) ++ t257).toList then (if bt258.2 = true then (some (bt258.1 == bt249.1)) else (some false)) else (some false))) else (some false)) else (some false)) else (some false)) else (some false))) else (some false))) else (none))) else (none)) else (none))) else (none)))) else (if bt249.2 = true then (some false) else (some (bt249.1 == 0)))))) else (some false)) = some r := H
  have A4 := Aside0.mk A40
  clear A40
  by_cases c5 : t248 = true
  · subst c5
    have H1 : ((day_Of.f k (wrap64 (a0)) (wrap64 (a1)) (wrap64 (a2))).bind fun bt249 => ((transposallaw04_Right.f k (wrap64 (a0)) (wrap64 (a1)) (wrap64 (a2))).bind fun t251 => (if t251 = true then ((day_Day_Date.f k bt249.1).bind fun bt252 => ((transposallaw04_digits.f (wrap64 (a0)) 4).bind fun t255 => (if t255.size + 1 ≤ 9223372036854775807 then ((transposallaw04_digits.f (wrap64 (a1)) 2).bind fun t256 => (if (t255 ++ (⟨#[45]⟩ : ByteArray)).size + t256.size ≤ 9223372036854775807 then (if ((t255 ++ (⟨#[45]⟩ : ByteArray)) ++ t256).size + 1 ≤ 9223372036854775807 then ((transposallaw04_digits.f (wrap64 (a2)) 2).bind fun t257 => (if (((t255 ++ (⟨#[45]⟩ : ByteArray)) ++ t256) ++ (⟨#[45]⟩ : ByteArray)).size + t257.size ≤ 9223372036854775807 then ((day_Parse.f k ((((t255 ++ (⟨#[45]⟩ : ByteArray)) ++ t256) ++ (⟨#[45]⟩ : ByteArray)) ++ t257)).bind fun bt258 => (if bt249.2 = true then ((transposallaw04_Number.f k (wrap64 (a0)) (wrap64 (a1)) (wrap64 (a2))).bind fun t260 => (if (wrap64 (bt249.1)) = t260 then (if bt252.1 = (wrap64 (a0)) then (if bt252.2.1 = (wrap64 (a1)) then (if bt252.2.2 = (wrap64 (a2)) then ((day_Day_Text.f k bt249.1).bind fun t261 => (if t261.toList = ((((t255 ++ (⟨#[45]⟩ : ByteArray)) ++ t256) ++ (⟨#[45]⟩ : ByteArray)) ++ t257).toList then (if bt258.2 = true then (some (bt258.1 == bt249.1)) else (some false)) else (some false))) else (some false)) else (some false)) else (some false)) else (some false))) else (some false))) else (none))) else (none)) else (none))) else (none)))) else (if bt249.2 = true then (some false) else (some (bt249.1 == 0)))))) = some r := by rw [if_pos rfl] at H; exact H
    clear H
    have H := H1
    clear H1
    replace H := Option.bind_eq_some_iff.mp H
    obtain ⟨⟨t249, t250⟩, A60, H⟩ := H
    replace H : ((transposallaw04_Right.f k (wrap64 (a0)) (wrap64 (a1)) (wrap64 (a2))).bind fun t251 => (if t251 = true then ((day_Day_Date.f k t249).bind fun bt252 => ((transposallaw04_digits.f (wrap64 (a0)) 4).bind fun t255 => (if t255.size + 1 ≤ 9223372036854775807 then ((transposallaw04_digits.f (wrap64 (a1)) 2).bind fun t256 => (if (t255 ++ (⟨#[45]⟩ : ByteArray)).size + t256.size ≤ 9223372036854775807 then (if ((t255 ++ (⟨#[45]⟩ : ByteArray)) ++ t256).size + 1 ≤ 9223372036854775807 then ((transposallaw04_digits.f (wrap64 (a2)) 2).bind fun t257 => (if (((t255 ++ (⟨#[45]⟩ : ByteArray)) ++ t256) ++ (⟨#[45]⟩ : ByteArray)).size + t257.size ≤ 9223372036854775807 then ((day_Parse.f k ((((t255 ++ (⟨#[45]⟩ : ByteArray)) ++ t256) ++ (⟨#[45]⟩ : ByteArray)) ++ t257)).bind fun bt258 => (if t250 = true then ((transposallaw04_Number.f k (wrap64 (a0)) (wrap64 (a1)) (wrap64 (a2))).bind fun t260 => (if (wrap64 (t249)) = t260 then (if bt252.1 = (wrap64 (a0)) then (if bt252.2.1 = (wrap64 (a1)) then (if bt252.2.2 = (wrap64 (a2)) then ((day_Day_Text.f k t249).bind fun t261 => (if t261.toList = ((((t255 ++ (⟨#[45]⟩ : ByteArray)) ++ t256) ++ (⟨#[45]⟩ : ByteArray)) ++ t257).toList then (if bt258.2 = true then (some (bt258.1 == t249)) else (some false)) else (some false))) else (some false)) else (some false)) else (some false)) else (some false))) else (some false))) else (none))) else (none)) else (none))) else (none)))) else (if t250 = true then (some false) else (some (t249 == 0))))) = some r := H
    have A6 := Aside0.mk A60
    clear A60
    replace H := Option.bind_eq_some_iff.mp H
    obtain ⟨t251, A70, H⟩ := H
    replace H : (if t251 = true then ((day_Day_Date.f k t249).bind fun bt252 => ((transposallaw04_digits.f (wrap64 (a0)) 4).bind fun t255 => (if t255.size + 1 ≤ 9223372036854775807 then ((transposallaw04_digits.f (wrap64 (a1)) 2).bind fun t256 => (if (t255 ++ (⟨#[45]⟩ : ByteArray)).size + t256.size ≤ 9223372036854775807 then (if ((t255 ++ (⟨#[45]⟩ : ByteArray)) ++ t256).size + 1 ≤ 9223372036854775807 then ((transposallaw04_digits.f (wrap64 (a2)) 2).bind fun t257 => (if (((t255 ++ (⟨#[45]⟩ : ByteArray)) ++ t256) ++ (⟨#[45]⟩ : ByteArray)).size + t257.size ≤ 9223372036854775807 then ((day_Parse.f k ((((t255 ++ (⟨#[45]⟩ : ByteArray)) ++ t256) ++ (⟨#[45]⟩ : ByteArray)) ++ t257)).bind fun bt258 => (if t250 = true then ((transposallaw04_Number.f k (wrap64 (a0)) (wrap64 (a1)) (wrap64 (a2))).bind fun t260 => (if (wrap64 (t249)) = t260 then (if bt252.1 = (wrap64 (a0)) then (if bt252.2.1 = (wrap64 (a1)) then (if bt252.2.2 = (wrap64 (a2)) then ((day_Day_Text.f k t249).bind fun t261 => (if t261.toList = ((((t255 ++ (⟨#[45]⟩ : ByteArray)) ++ t256) ++ (⟨#[45]⟩ : ByteArray)) ++ t257).toList then (if bt258.2 = true then (some (bt258.1 == t249)) else (some false)) else (some false))) else (some false)) else (some false)) else (some false)) else (some false))) else (some false))) else (none))) else (none)) else (none))) else (none)))) else (if t250 = true then (some false) else (some (t249 == 0)))) = some r := H
    have A7 := Aside0.mk A70
    clear A70
    by_cases c8 : t251 = true
    · subst c8
      have H1 : ((day_Day_Date.f k t249).bind fun bt252 => ((transposallaw04_digits.f (wrap64 (a0)) 4).bind fun t255 => (if t255.size + 1 ≤ 9223372036854775807 then ((transposallaw04_digits.f (wrap64 (a1)) 2).bind fun t256 => (if (t255 ++ (⟨#[45]⟩ : ByteArray)).size + t256.size ≤ 9223372036854775807 then (if ((t255 ++ (⟨#[45]⟩ : ByteArray)) ++ t256).size + 1 ≤ 9223372036854775807 then ((transposallaw04_digits.f (wrap64 (a2)) 2).bind fun t257 => (if (((t255 ++ (⟨#[45]⟩ : ByteArray)) ++ t256) ++ (⟨#[45]⟩ : ByteArray)).size + t257.size ≤ 9223372036854775807 then ((day_Parse.f k ((((t255 ++ (⟨#[45]⟩ : ByteArray)) ++ t256) ++ (⟨#[45]⟩ : ByteArray)) ++ t257)).bind fun bt258 => (if t250 = true then ((transposallaw04_Number.f k (wrap64 (a0)) (wrap64 (a1)) (wrap64 (a2))).bind fun t260 => (if (wrap64 (t249)) = t260 then (if bt252.1 = (wrap64 (a0)) then (if bt252.2.1 = (wrap64 (a1)) then (if bt252.2.2 = (wrap64 (a2)) then ((day_Day_Text.f k t249).bind fun t261 => (if t261.toList = ((((t255 ++ (⟨#[45]⟩ : ByteArray)) ++ t256) ++ (⟨#[45]⟩ : ByteArray)) ++ t257).toList then (if bt258.2 = true then (some (bt258.1 == t249)) else (some false)) else (some false))) else (some false)) else (some false)) else (some false)) else (some false))) else (some false))) else (none))) else (none)) else (none))) else (none)))) = some r := by rw [if_pos rfl] at H; exact H
      clear H
      have H := H1
      clear H1
      replace H := Option.bind_eq_some_iff.mp H
      obtain ⟨⟨t252, t253, t254⟩, A90, H⟩ := H
      replace H : ((transposallaw04_digits.f (wrap64 (a0)) 4).bind fun t255 => (if t255.size + 1 ≤ 9223372036854775807 then ((transposallaw04_digits.f (wrap64 (a1)) 2).bind fun t256 => (if (t255 ++ (⟨#[45]⟩ : ByteArray)).size + t256.size ≤ 9223372036854775807 then (if ((t255 ++ (⟨#[45]⟩ : ByteArray)) ++ t256).size + 1 ≤ 9223372036854775807 then ((transposallaw04_digits.f (wrap64 (a2)) 2).bind fun t257 => (if (((t255 ++ (⟨#[45]⟩ : ByteArray)) ++ t256) ++ (⟨#[45]⟩ : ByteArray)).size + t257.size ≤ 9223372036854775807 then ((day_Parse.f k ((((t255 ++ (⟨#[45]⟩ : ByteArray)) ++ t256) ++ (⟨#[45]⟩ : ByteArray)) ++ t257)).bind fun bt258 => (if t250 = true then ((transposallaw04_Number.f k (wrap64 (a0)) (wrap64 (a1)) (wrap64 (a2))).bind fun t260 => (if (wrap64 (t249)) = t260 then (if t252 = (wrap64 (a0)) then (if t253 = (wrap64 (a1)) then (if t254 = (wrap64 (a2)) then ((day_Day_Text.f k t249).bind fun t261 => (if t261.toList = ((((t255 ++ (⟨#[45]⟩ : ByteArray)) ++ t256) ++ (⟨#[45]⟩ : ByteArray)) ++ t257).toList then (if bt258.2 = true then (some (bt258.1 == t249)) else (some false)) else (some false))) else (some false)) else (some false)) else (some false)) else (some false))) else (some false))) else (none))) else (none)) else (none))) else (none))) = some r := H
      have A9 := Aside0.mk A90
      clear A90
      replace H := Option.bind_eq_some_iff.mp H
      obtain ⟨t255, A100, H⟩ := H
      replace H : (if t255.size + 1 ≤ 9223372036854775807 then ((transposallaw04_digits.f (wrap64 (a1)) 2).bind fun t256 => (if (t255 ++ (⟨#[45]⟩ : ByteArray)).size + t256.size ≤ 9223372036854775807 then (if ((t255 ++ (⟨#[45]⟩ : ByteArray)) ++ t256).size + 1 ≤ 9223372036854775807 then ((transposallaw04_digits.f (wrap64 (a2)) 2).bind fun t257 => (if (((t255 ++ (⟨#[45]⟩ : ByteArray)) ++ t256) ++ (⟨#[45]⟩ : ByteArray)).size + t257.size ≤ 9223372036854775807 then ((day_Parse.f k ((((t255 ++ (⟨#[45]⟩ : ByteArray)) ++ t256) ++ (⟨#[45]⟩ : ByteArray)) ++ t257)).bind fun bt258 => (if t250 = true then ((transposallaw04_Number.f k (wrap64 (a0)) (wrap64 (a1)) (wrap64 (a2))).bind fun t260 => (if (wrap64 (t249)) = t260 then (if t252 = (wrap64 (a0)) then (if t253 = (wrap64 (a1)) then (if t254 = (wrap64 (a2)) then ((day_Day_Text.f k t249).bind fun t261 => (if t261.toList = ((((t255 ++ (⟨#[45]⟩ : ByteArray)) ++ t256) ++ (⟨#[45]⟩ : ByteArray)) ++ t257).toList then (if bt258.2 = true then (some (bt258.1 == t249)) else (some false)) else (some false))) else (some false)) else (some false)) else (some false)) else (some false))) else (some false))) else (none))) else (none)) else (none))) else (none)) = some r := H
      have A10 := Aside0.mk A100
      clear A100
      by_cases c11 : t255.size + 1 ≤ 9223372036854775807
      · rw [if_pos c11] at H
        have c11b0 := eq_true c11
        have c11b1 : decide (t255.size + 1 ≤ 9223372036854775807) = true := decide_eq_true c11
        try have c11b2 : (9223372036854775807 < t255.size + 1) = False := eq_false (Nat.not_lt.2 c11)
        replace H := Option.bind_eq_some_iff.mp H
        obtain ⟨t256, A120, H⟩ := H
        replace H : (if (t255 ++ (⟨#[45]⟩ : ByteArray)).size + t256.size ≤ 9223372036854775807 then (if ((t255 ++ (⟨#[45]⟩ : ByteArray)) ++ t256).size + 1 ≤ 9223372036854775807 then ((transposallaw04_digits.f (wrap64 (a2)) 2).bind fun t257 => (if (((t255 ++ (⟨#[45]⟩ : ByteArray)) ++ t256) ++ (⟨#[45]⟩ : ByteArray)).size + t257.size ≤ 9223372036854775807 then ((day_Parse.f k ((((t255 ++ (⟨#[45]⟩ : ByteArray)) ++ t256) ++ (⟨#[45]⟩ : ByteArray)) ++ t257)).bind fun bt258 => (if t250 = true then ((transposallaw04_Number.f k (wrap64 (a0)) (wrap64 (a1)) (wrap64 (a2))).bind fun t260 => (if (wrap64 (t249)) = t260 then (if t252 = (wrap64 (a0)) then (if t253 = (wrap64 (a1)) then (if t254 = (wrap64 (a2)) then ((day_Day_Text.f k t249).bind fun t261 => (if t261.toList = ((((t255 ++ (⟨#[45]⟩ : ByteArray)) ++ t256) ++ (⟨#[45]⟩ : ByteArray)) ++ t257).toList then (if bt258.2 = true then (some (bt258.1 == t249)) else (some false)) else (some false))) else (some false)) else (some false)) else (some false)) else (some false))) else (some false))) else (none))) else (none)) else (none)) = some r := H
        have A12 := Aside0.mk A120
        clear A120
        by_cases c13 : (t255 ++ (⟨#[45]⟩ : ByteArray)).size + t256.size ≤ 9223372036854775807
        · rw [if_pos c13] at H
          have c13b0 := eq_true c13
          have c13b1 : decide ((t255 ++ (⟨#[45]⟩ : ByteArray)).size + t256.size ≤ 9223372036854775807) = true := decide_eq_true c13
          try have c13b2 : (9223372036854775807 < (t255 ++ (⟨#[45]⟩ : ByteArray)).size + t256.size) = False := eq_false (Nat.not_lt.2 c13)
          try have c13b3 : (9223372036854775807 < t255.size + 1 + t256.size) = False := eq_false (by have z_ := c13; simp only [ByteArray.size_append] at z_; exact Nat.not_lt.2 z_)
          by_cases c14 : ((t255 ++ (⟨#[45]⟩ : ByteArray)) ++ t256).size + 1 ≤ 9223372036854775807
          · rw [if_pos c14] at H
            have c14b0 := eq_true c14
            have c14b1 : decide (((t255 ++ (⟨#[45]⟩ : ByteArray)) ++ t256).size + 1 ≤ 9223372036854775807) = true := decide_eq_true c14
            try have c14b2 : (9223372036854775807 < ((t255 ++ (⟨#[45]⟩ : ByteArray)) ++ t256).size + 1) = False := eq_false (Nat.not_lt.2 c14)
            try have c14b3 : (9223372036854775807 < t255.size + 1 + t256.size + 1) = False := eq_false (by have z_ := c14; simp only [ByteArray.size_append] at z_; exact Nat.not_lt.2 z_)
            replace H := Option.bind_eq_some_iff.mp H
            obtain ⟨t257, A150, H⟩ := H
            replace H : (if (((t255 ++ (⟨#[45]⟩ : ByteArray)) ++ t256) ++ (⟨#[45]⟩ : ByteArray)).size + t257.size ≤ 9223372036854775807 then ((day_Parse.f k ((((t255 ++ (⟨#[45]⟩ : ByteArray)) ++ t256) ++ (⟨#[45]⟩ : ByteArray)) ++ t257)).bind fun bt258 => (if t250 = true then ((transposallaw04_Number.f k (wrap64 (a0)) (wrap64 (a1)) (wrap64 (a2))).bind fun t260 => (if (wrap64 (t249)) = t260 then (if t252 = (wrap64 (a0)) then (if t253 = (wrap64 (a1)) then (if t254 = (wrap64 (a2)) then ((day_Day_Text.f k t249).bind fun t261 => (if t261.toList = ((((t255 ++ (⟨#[45]⟩ : ByteArray)) ++ t256) ++ (⟨#[45]⟩ : ByteArray)) ++ t257).toList then (if bt258.2 = true then (some (bt258.1 == t249)) else (some false)) else (some false))) else (some false)) else (some false)) else (some false)) else (some false))) else (some false))) else (none)) = some r := H
            have A15 := Aside0.mk A150
            clear A150
            by_cases c16 : (((t255 ++ (⟨#[45]⟩ : ByteArray)) ++ t256) ++ (⟨#[45]⟩ : ByteArray)).size + t257.size ≤ 9223372036854775807
            · rw [if_pos c16] at H
              have c16b0 := eq_true c16
              have c16b1 : decide ((((t255 ++ (⟨#[45]⟩ : ByteArray)) ++ t256) ++ (⟨#[45]⟩ : ByteArray)).size + t257.size ≤ 9223372036854775807) = true := decide_eq_true c16
              try have c16b2 : (9223372036854775807 < (((t255 ++ (⟨#[45]⟩ : ByteArray)) ++ t256) ++ (⟨#[45]⟩ : ByteArray)).size + t257.size) = False := eq_false (Nat.not_lt.2 c16)
              try have c16b3 : (9223372036854775807 < t255.size + 1 + t256.size + 1 + t257.size) = False := eq_false (by have z_ := c16; simp only [ByteArray.size_append] at z_; exact Nat.not_lt.2 z_)
              replace H := Option.bind_eq_some_iff.mp H
              obtain ⟨⟨t258, t259⟩, A170, H⟩ := H
              replace H : (if t250 = true then ((transposallaw04_Number.f k (wrap64 (a0)) (wrap64 (a1)) (wrap64 (a2))).bind fun t260 => (if (wrap64 (t249)) = t260 then (if t252 = (wrap64 (a0)) then (if t253 = (wrap64 (a1)) then (if t254 = (wrap64 (a2)) then ((day_Day_Text.f k t249).bind fun t261 => (if t261.toList = ((((t255 ++ (⟨#[45]⟩ : ByteArray)) ++ t256) ++ (⟨#[45]⟩ : ByteArray)) ++ t257).toList then (if t259 = true then (some (t258 == t249)) else (some false)) else (some false))) else (some false)) else (some false)) else (some false)) else (some false))) else (some false)) = some r := H
              have A17 := Aside0.mk A170
              clear A170
              by_cases c18 : t250 = true
              · subst c18
                have H1 : ((transposallaw04_Number.f k (wrap64 (a0)) (wrap64 (a1)) (wrap64 (a2))).bind fun t260 => (if (wrap64 (t249)) = t260 then (if t252 = (wrap64 (a0)) then (if t253 = (wrap64 (a1)) then (if t254 = (wrap64 (a2)) then ((day_Day_Text.f k t249).bind fun t261 => (if t261.toList = ((((t255 ++ (⟨#[45]⟩ : ByteArray)) ++ t256) ++ (⟨#[45]⟩ : ByteArray)) ++ t257).toList then (if t259 = true then (some (t258 == t249)) else (some false)) else (some false))) else (some false)) else (some false)) else (some false)) else (some false))) = some r := by rw [if_pos rfl] at H; exact H
                clear H
                have H := H1
                clear H1
                replace H := Option.bind_eq_some_iff.mp H
                obtain ⟨t260, A190, H⟩ := H
                replace H : (if (wrap64 (t249)) = t260 then (if t252 = (wrap64 (a0)) then (if t253 = (wrap64 (a1)) then (if t254 = (wrap64 (a2)) then ((day_Day_Text.f k t249).bind fun t261 => (if t261.toList = ((((t255 ++ (⟨#[45]⟩ : ByteArray)) ++ t256) ++ (⟨#[45]⟩ : ByteArray)) ++ t257).toList then (if t259 = true then (some (t258 == t249)) else (some false)) else (some false))) else (some false)) else (some false)) else (some false)) else (some false)) = some r := H
                have A19 := Aside0.mk A190
                clear A190
                by_cases c20 : (wrap64 (t249)) = t260
                · rw [if_pos c20] at H
                  have c20b0 : ((wrap64 (t249)) == t260) = true := beq_iff_eq.mpr c20
                  have c20b1 : ((wrap64 (t249)) != t260) = false := bne_eq_false_iff_eq.mpr c20
                  clear c20
                  by_cases c21 : t252 = (wrap64 (a0))
                  · rw [if_pos c21] at H
                    have c21b0 : (t252 == (wrap64 (a0))) = true := beq_iff_eq.mpr c21
                    have c21b1 : (t252 != (wrap64 (a0))) = false := bne_eq_false_iff_eq.mpr c21
                    clear c21
                    by_cases c22 : t253 = (wrap64 (a1))
                    · rw [if_pos c22] at H
                      have c22b0 : (t253 == (wrap64 (a1))) = true := beq_iff_eq.mpr c22
                      have c22b1 : (t253 != (wrap64 (a1))) = false := bne_eq_false_iff_eq.mpr c22
                      clear c22
                      by_cases c23 : t254 = (wrap64 (a2))
                      · rw [if_pos c23] at H
                        have c23b0 : (t254 == (wrap64 (a2))) = true := beq_iff_eq.mpr c23
                        have c23b1 : (t254 != (wrap64 (a2))) = false := bne_eq_false_iff_eq.mpr c23
                        clear c23
                        replace H := Option.bind_eq_some_iff.mp H
                        obtain ⟨t261, A240, H⟩ := H
                        replace H : (if t261.toList = ((((t255 ++ (⟨#[45]⟩ : ByteArray)) ++ t256) ++ (⟨#[45]⟩ : ByteArray)) ++ t257).toList then (if t259 = true then (some (t258 == t249)) else (some false)) else (some false)) = some r := H
                        have A24 := Aside0.mk A240
                        clear A240
                        by_cases c25 : t261.toList = ((((t255 ++ (⟨#[45]⟩ : ByteArray)) ++ t256) ++ (⟨#[45]⟩ : ByteArray)) ++ t257).toList
                        · rw [if_pos c25] at H
                          have c25b0 : (t261.toList == ((((t255 ++ (⟨#[45]⟩ : ByteArray)) ++ t256) ++ (⟨#[45]⟩ : ByteArray)) ++ t257).toList) = true := beq_iff_eq.mpr c25
                          have c25b1 : (t261.toList != ((((t255 ++ (⟨#[45]⟩ : ByteArray)) ++ t256) ++ (⟨#[45]⟩ : ByteArray)) ++ t257).toList) = false := bne_eq_false_iff_eq.mpr c25
                          clear c25
                          by_cases c26 : t259 = true
                          · subst c26
                            have H1 : (some (t258 == t249)) = some r := by rw [if_pos rfl] at H; exact H
                            clear H
                            have H := H1
                            clear H1
                            obtain rfl := Option.some.inj H
                            go_enter Tryd.func6, Tryd.ntmps6
                            go_wp2_with (first | ((with_reducible refine gate_callee (f := 8) rfl ?_); refine goesL_ (some 15) rfl rfl Tryd.func8 (by kernel_rfl) rfl #[] rfl (by (try simp only [List.map_toArray, List.map_cons, List.map_nil]); first | done | rfl | (simp only [List.length_drop, List.length_take]; rfl)) ?_; (with_reducible refine (transposallaw04_Awake.calls k  true _ ?side1 A4.out).mono ?_); (case side1 => exact Glob.below (by repeat (first | (with_reducible first | exact HB.out | apply below_alloc | apply pw_below_drewN | apply below_drew1) | exact HB.out)) HG.out); rintro e w27 ⟨rfl, hb⟩; refine ⟨_, rfl, ?_⟩; have n0_ := Aside0.mk (below_step (by repeat (first | (with_reducible first | exact HB.out | apply below_alloc | apply pw_below_drewN | apply below_drew1) | exact HB.out)) hb); clear HB; have HB := n0_; clear n0_; (try clear hb); (try clear hb2); (try clear hk); (try clear hi)) | ((with_reducible refine gate_callee (f := 13) rfl ?_); refine goesL_ (some 24) rfl rfl Tryd.func13 (by kernel_rfl) rfl #[.int .i64 (wrap64 (a0)), .int .i64 (wrap64 (a1)), .int .i64 (wrap64 (a2))] rfl (by (try simp only [List.map_toArray, List.map_cons, List.map_nil]); first | done | rfl | (simp only [List.length_drop, List.length_take]; rfl)) ?_; (with_reducible refine (day_Of.calls k (wrap64 (a0)) (wrap64 (a1)) (wrap64 (a2)) t249 true _ ?side1 A6.out).mono ?_); (case side1 => exact Glob.below (by repeat (first | (with_reducible first | exact HB.out | apply below_alloc | apply pw_below_drewN | apply below_drew1) | exact HB.out)) HG.out); rintro e w' ⟨rfl, ⟨nd, rfl⟩⟩; refine ⟨_, rfl, ?_⟩) | ((with_reducible refine gate_callee (f := 12) rfl ?_); refine goesL_ (some 33) rfl rfl Tryd.func12 (by kernel_rfl) rfl #[.int .i64 (wrap64 (a0)), .int .i64 (wrap64 (a1)), .int .i64 (wrap64 (a2))] rfl (by (try simp only [List.map_toArray, List.map_cons, List.map_nil]); first | done | rfl | (simp only [List.length_drop, List.length_take]; rfl)) ?_; (with_reducible refine (transposallaw04_Right.calls k (wrap64 (a0)) (wrap64 (a1)) (wrap64 (a2)) true _ A7.out).mono ?_); rintro e w' ⟨rfl, ⟨nd, rfl⟩⟩; refine ⟨_, rfl, ?_⟩) | ((with_reducible refine gate_callee (f := 9) rfl ?_); refine goesL_ (some 43) rfl rfl Tryd.func9 (by kernel_rfl) rfl #[.int .i32 t249] rfl (by (try simp only [List.map_toArray, List.map_cons, List.map_nil]); first | done | rfl | (simp only [List.length_drop, List.length_take]; rfl)) ?_; (with_reducible refine (day_Day_Date.calls k t249 t252 t253 t254 _ ?side1 A9.out).mono ?_); (case side1 => exact Glob.below (by repeat (first | (with_reducible first | exact HB.out | apply below_alloc | apply pw_below_drewN | apply below_drew1) | exact HB.out)) HG.out); rintro e w' ⟨rfl, ⟨nd, rfl⟩⟩; refine ⟨_, rfl, ?_⟩) | ((with_reducible refine gate_callee (f := 15) rfl ?_); refine goesL_ (some 49) rfl rfl Tryd.func15 (by kernel_rfl) rfl #[.int .i64 (wrap64 (a0)), .int .i64 4] rfl (by (try simp only [List.map_toArray, List.map_cons, List.map_nil]); first | done | rfl | (simp only [List.length_drop, List.length_take]; rfl)) ?_; (with_reducible refine (transposallaw04_digits.calls (wrap64 (a0)) 4 t255 _ A10.out).mono ?_); rintro e w' ⟨rfl, ⟨nd, rfl⟩⟩; refine ⟨_, rfl, ?_⟩) | ((with_reducible refine gate_callee (f := 15) rfl ?_); refine goesL_ (some 53) rfl rfl Tryd.func15 (by kernel_rfl) rfl #[.int .i64 (wrap64 (a1)), .int .i64 2] rfl (by (try simp only [List.map_toArray, List.map_cons, List.map_nil]); first | done | rfl | (simp only [List.length_drop, List.length_take]; rfl)) ?_; (with_reducible refine (transposallaw04_digits.calls (wrap64 (a1)) 2 t256 _ A12.out).mono ?_); rintro e w' ⟨rfl, ⟨nd, rfl⟩⟩; refine ⟨_, rfl, ?_⟩) | ((with_reducible refine gate_callee (f := 15) rfl ?_); refine goesL_ (some 58) rfl rfl Tryd.func15 (by kernel_rfl) rfl #[.int .i64 (wrap64 (a2)), .int .i64 2] rfl (by (try simp only [List.map_toArray, List.map_cons, List.map_nil]); first | done | rfl | (simp only [List.length_drop, List.length_take]; rfl)) ?_; (with_reducible refine (transposallaw04_digits.calls (wrap64 (a2)) 2 t257 _ A15.out).mono ?_); rintro e w' ⟨rfl, ⟨nd, rfl⟩⟩; refine ⟨_, rfl, ?_⟩) | ((with_reducible refine gate_callee (f := 16) rfl ?_); refine goesL_ (some 62) rfl rfl Tryd.func16 (by kernel_rfl) rfl #[.string ((((t255 ++ (⟨#[45]⟩ : ByteArray)) ++ t256) ++ (⟨#[45]⟩ : ByteArray)) ++ t257)] rfl (by (try simp only [List.map_toArray, List.map_cons, List.map_nil]); first | done | rfl | (simp only [List.length_drop, List.length_take]; rfl)) ?_; (with_reducible refine (day_Parse.calls k ((((t255 ++ (⟨#[45]⟩ : ByteArray)) ++ t256) ++ (⟨#[45]⟩ : ByteArray)) ++ t257) t258 true _ ?side1 A17.out).mono ?_); (case side1 => exact Glob.below (by repeat (first | (with_reducible first | exact HB.out | apply below_alloc | apply pw_below_drewN | apply below_drew1) | exact HB.out)) HG.out); rintro e w28 ⟨rfl, hb⟩; refine ⟨_, rfl, ?_⟩; have n0_ := Aside0.mk (below_step (by repeat (first | (with_reducible first | exact HB.out | apply below_alloc | apply pw_below_drewN | apply below_drew1) | exact HB.out)) hb); clear HB; have HB := n0_; clear n0_; (try clear hb); (try clear hb2); (try clear hk); (try clear hi)) | (go_at_call 10; (with_reducible refine (transposallaw04_Number.calls k (wrap64 (a0)) (wrap64 (a1)) (wrap64 (a2)) t260 _ A19.out).mono ?_); rintro e w' ⟨rfl, ⟨nd, rfl⟩⟩) | (go_at_call 11; (with_reducible refine (day_Day_Text.calls k t249 t261 _ ?side1 A24.out).mono ?_); (case side1 => exact Glob.below (by repeat (first | (with_reducible first | exact HB.out | apply below_alloc | apply pw_below_drewN | apply below_drew1) | exact HB.out)) HG.out); rintro e w29 ⟨rfl, hb⟩; have n0_ := Aside0.mk (below_step (by repeat (first | (with_reducible first | exact HB.out | apply below_alloc | apply pw_below_drewN | apply below_drew1) | exact HB.out)) hb); clear HB; have HB := n0_; clear n0_; (try clear hb); (try clear hb2); (try clear hk); (try clear hi)))
                            go_ret
                            exact ⟨by first | rfl | (simp [errW_none, errW_some] <;> rfl) | (simp [*, errW_none, errW_some] <;> rfl), by repeat (first | (with_reducible first | exact HB.out | apply below_alloc | apply pw_below_drewN | apply below_drew1) | exact HB.out)⟩
                          · replace c26 := Bool.eq_false_iff.mpr c26
                            subst c26
                            have H1 : (some false) = some r := by rw [if_neg (show ¬ (false = true) by decide)] at H; exact H
                            clear H
                            have H := H1
                            clear H1
                            obtain rfl := Option.some.inj H
                            go_enter Tryd.func6, Tryd.ntmps6
                            go_wp2_with (first | ((with_reducible refine gate_callee (f := 8) rfl ?_); refine goesL_ (some 15) rfl rfl Tryd.func8 (by kernel_rfl) rfl #[] rfl (by (try simp only [List.map_toArray, List.map_cons, List.map_nil]); first | done | rfl | (simp only [List.length_drop, List.length_take]; rfl)) ?_; (with_reducible refine (transposallaw04_Awake.calls k  true _ ?side1 A4.out).mono ?_); (case side1 => exact Glob.below (by repeat (first | (with_reducible first | exact HB.out | apply below_alloc | apply pw_below_drewN | apply below_drew1) | exact HB.out)) HG.out); rintro e w30 ⟨rfl, hb⟩; refine ⟨_, rfl, ?_⟩; have n0_ := Aside0.mk (below_step (by repeat (first | (with_reducible first | exact HB.out | apply below_alloc | apply pw_below_drewN | apply below_drew1) | exact HB.out)) hb); clear HB; have HB := n0_; clear n0_; (try clear hb); (try clear hb2); (try clear hk); (try clear hi)) | ((with_reducible refine gate_callee (f := 13) rfl ?_); refine goesL_ (some 24) rfl rfl Tryd.func13 (by kernel_rfl) rfl #[.int .i64 (wrap64 (a0)), .int .i64 (wrap64 (a1)), .int .i64 (wrap64 (a2))] rfl (by (try simp only [List.map_toArray, List.map_cons, List.map_nil]); first | done | rfl | (simp only [List.length_drop, List.length_take]; rfl)) ?_; (with_reducible refine (day_Of.calls k (wrap64 (a0)) (wrap64 (a1)) (wrap64 (a2)) t249 true _ ?side1 A6.out).mono ?_); (case side1 => exact Glob.below (by repeat (first | (with_reducible first | exact HB.out | apply below_alloc | apply pw_below_drewN | apply below_drew1) | exact HB.out)) HG.out); rintro e w' ⟨rfl, ⟨nd, rfl⟩⟩; refine ⟨_, rfl, ?_⟩) | ((with_reducible refine gate_callee (f := 12) rfl ?_); refine goesL_ (some 33) rfl rfl Tryd.func12 (by kernel_rfl) rfl #[.int .i64 (wrap64 (a0)), .int .i64 (wrap64 (a1)), .int .i64 (wrap64 (a2))] rfl (by (try simp only [List.map_toArray, List.map_cons, List.map_nil]); first | done | rfl | (simp only [List.length_drop, List.length_take]; rfl)) ?_; (with_reducible refine (transposallaw04_Right.calls k (wrap64 (a0)) (wrap64 (a1)) (wrap64 (a2)) true _ A7.out).mono ?_); rintro e w' ⟨rfl, ⟨nd, rfl⟩⟩; refine ⟨_, rfl, ?_⟩) | ((with_reducible refine gate_callee (f := 9) rfl ?_); refine goesL_ (some 43) rfl rfl Tryd.func9 (by kernel_rfl) rfl #[.int .i32 t249] rfl (by (try simp only [List.map_toArray, List.map_cons, List.map_nil]); first | done | rfl | (simp only [List.length_drop, List.length_take]; rfl)) ?_; (with_reducible refine (day_Day_Date.calls k t249 t252 t253 t254 _ ?side1 A9.out).mono ?_); (case side1 => exact Glob.below (by repeat (first | (with_reducible first | exact HB.out | apply below_alloc | apply pw_below_drewN | apply below_drew1) | exact HB.out)) HG.out); rintro e w' ⟨rfl, ⟨nd, rfl⟩⟩; refine ⟨_, rfl, ?_⟩) | ((with_reducible refine gate_callee (f := 15) rfl ?_); refine goesL_ (some 49) rfl rfl Tryd.func15 (by kernel_rfl) rfl #[.int .i64 (wrap64 (a0)), .int .i64 4] rfl (by (try simp only [List.map_toArray, List.map_cons, List.map_nil]); first | done | rfl | (simp only [List.length_drop, List.length_take]; rfl)) ?_; (with_reducible refine (transposallaw04_digits.calls (wrap64 (a0)) 4 t255 _ A10.out).mono ?_); rintro e w' ⟨rfl, ⟨nd, rfl⟩⟩; refine ⟨_, rfl, ?_⟩) | ((with_reducible refine gate_callee (f := 15) rfl ?_); refine goesL_ (some 53) rfl rfl Tryd.func15 (by kernel_rfl) rfl #[.int .i64 (wrap64 (a1)), .int .i64 2] rfl (by (try simp only [List.map_toArray, List.map_cons, List.map_nil]); first | done | rfl | (simp only [List.length_drop, List.length_take]; rfl)) ?_; (with_reducible refine (transposallaw04_digits.calls (wrap64 (a1)) 2 t256 _ A12.out).mono ?_); rintro e w' ⟨rfl, ⟨nd, rfl⟩⟩; refine ⟨_, rfl, ?_⟩) | ((with_reducible refine gate_callee (f := 15) rfl ?_); refine goesL_ (some 58) rfl rfl Tryd.func15 (by kernel_rfl) rfl #[.int .i64 (wrap64 (a2)), .int .i64 2] rfl (by (try simp only [List.map_toArray, List.map_cons, List.map_nil]); first | done | rfl | (simp only [List.length_drop, List.length_take]; rfl)) ?_; (with_reducible refine (transposallaw04_digits.calls (wrap64 (a2)) 2 t257 _ A15.out).mono ?_); rintro e w' ⟨rfl, ⟨nd, rfl⟩⟩; refine ⟨_, rfl, ?_⟩) | ((with_reducible refine gate_callee (f := 16) rfl ?_); refine goesL_ (some 62) rfl rfl Tryd.func16 (by kernel_rfl) rfl #[.string ((((t255 ++ (⟨#[45]⟩ : ByteArray)) ++ t256) ++ (⟨#[45]⟩ : ByteArray)) ++ t257)] rfl (by (try simp only [List.map_toArray, List.map_cons, List.map_nil]); first | done | rfl | (simp only [List.length_drop, List.length_take]; rfl)) ?_; (with_reducible refine (day_Parse.calls k ((((t255 ++ (⟨#[45]⟩ : ByteArray)) ++ t256) ++ (⟨#[45]⟩ : ByteArray)) ++ t257) t258 false _ ?side1 A17.out).mono ?_); (case side1 => exact Glob.below (by repeat (first | (with_reducible first | exact HB.out | apply below_alloc | apply pw_below_drewN | apply below_drew1) | exact HB.out)) HG.out); rintro e w31 ⟨rfl, hb⟩; refine ⟨_, rfl, ?_⟩; have n0_ := Aside0.mk (below_step (by repeat (first | (with_reducible first | exact HB.out | apply below_alloc | apply pw_below_drewN | apply below_drew1) | exact HB.out)) hb); clear HB; have HB := n0_; clear n0_; (try clear hb); (try clear hb2); (try clear hk); (try clear hi)) | (go_at_call 10; (with_reducible refine (transposallaw04_Number.calls k (wrap64 (a0)) (wrap64 (a1)) (wrap64 (a2)) t260 _ A19.out).mono ?_); rintro e w' ⟨rfl, ⟨nd, rfl⟩⟩) | (go_at_call 11; (with_reducible refine (day_Day_Text.calls k t249 t261 _ ?side1 A24.out).mono ?_); (case side1 => exact Glob.below (by repeat (first | (with_reducible first | exact HB.out | apply below_alloc | apply pw_below_drewN | apply below_drew1) | exact HB.out)) HG.out); rintro e w32 ⟨rfl, hb⟩; have n0_ := Aside0.mk (below_step (by repeat (first | (with_reducible first | exact HB.out | apply below_alloc | apply pw_below_drewN | apply below_drew1) | exact HB.out)) hb); clear HB; have HB := n0_; clear n0_; (try clear hb); (try clear hb2); (try clear hk); (try clear hi)))
                            go_ret
                            exact ⟨by first | rfl | (simp [errW_none, errW_some] <;> rfl) | (simp [*, errW_none, errW_some] <;> rfl), by repeat (first | (with_reducible first | exact HB.out | apply below_alloc | apply pw_below_drewN | apply below_drew1) | exact HB.out)⟩
                        · rw [if_neg c25] at H
                          have c25b0 : (t261.toList == ((((t255 ++ (⟨#[45]⟩ : ByteArray)) ++ t256) ++ (⟨#[45]⟩ : ByteArray)) ++ t257).toList) = false := beq_eq_false_iff_ne.mpr c25
                          have c25b1 : (t261.toList != ((((t255 ++ (⟨#[45]⟩ : ByteArray)) ++ t256) ++ (⟨#[45]⟩ : ByteArray)) ++ t257).toList) = true := bne_iff_ne.mpr c25
                          obtain rfl := Option.some.inj H
                          go_enter Tryd.func6, Tryd.ntmps6
                          go_wp2_with (first | ((with_reducible refine gate_callee (f := 8) rfl ?_); refine goesL_ (some 15) rfl rfl Tryd.func8 (by kernel_rfl) rfl #[] rfl (by (try simp only [List.map_toArray, List.map_cons, List.map_nil]); first | done | rfl | (simp only [List.length_drop, List.length_take]; rfl)) ?_; (with_reducible refine (transposallaw04_Awake.calls k  true _ ?side1 A4.out).mono ?_); (case side1 => exact Glob.below (by repeat (first | (with_reducible first | exact HB.out | apply below_alloc | apply pw_below_drewN | apply below_drew1) | exact HB.out)) HG.out); rintro e w33 ⟨rfl, hb⟩; refine ⟨_, rfl, ?_⟩; have n0_ := Aside0.mk (below_step (by repeat (first | (with_reducible first | exact HB.out | apply below_alloc | apply pw_below_drewN | apply below_drew1) | exact HB.out)) hb); clear HB; have HB := n0_; clear n0_; (try clear hb); (try clear hb2); (try clear hk); (try clear hi)) | ((with_reducible refine gate_callee (f := 13) rfl ?_); refine goesL_ (some 24) rfl rfl Tryd.func13 (by kernel_rfl) rfl #[.int .i64 (wrap64 (a0)), .int .i64 (wrap64 (a1)), .int .i64 (wrap64 (a2))] rfl (by (try simp only [List.map_toArray, List.map_cons, List.map_nil]); first | done | rfl | (simp only [List.length_drop, List.length_take]; rfl)) ?_; (with_reducible refine (day_Of.calls k (wrap64 (a0)) (wrap64 (a1)) (wrap64 (a2)) t249 true _ ?side1 A6.out).mono ?_); (case side1 => exact Glob.below (by repeat (first | (with_reducible first | exact HB.out | apply below_alloc | apply pw_below_drewN | apply below_drew1) | exact HB.out)) HG.out); rintro e w' ⟨rfl, ⟨nd, rfl⟩⟩; refine ⟨_, rfl, ?_⟩) | ((with_reducible refine gate_callee (f := 12) rfl ?_); refine goesL_ (some 33) rfl rfl Tryd.func12 (by kernel_rfl) rfl #[.int .i64 (wrap64 (a0)), .int .i64 (wrap64 (a1)), .int .i64 (wrap64 (a2))] rfl (by (try simp only [List.map_toArray, List.map_cons, List.map_nil]); first | done | rfl | (simp only [List.length_drop, List.length_take]; rfl)) ?_; (with_reducible refine (transposallaw04_Right.calls k (wrap64 (a0)) (wrap64 (a1)) (wrap64 (a2)) true _ A7.out).mono ?_); rintro e w' ⟨rfl, ⟨nd, rfl⟩⟩; refine ⟨_, rfl, ?_⟩) | ((with_reducible refine gate_callee (f := 9) rfl ?_); refine goesL_ (some 43) rfl rfl Tryd.func9 (by kernel_rfl) rfl #[.int .i32 t249] rfl (by (try simp only [List.map_toArray, List.map_cons, List.map_nil]); first | done | rfl | (simp only [List.length_drop, List.length_take]; rfl)) ?_; (with_reducible refine (day_Day_Date.calls k t249 t252 t253 t254 _ ?side1 A9.out).mono ?_); (case side1 => exact Glob.below (by repeat (first | (with_reducible first | exact HB.out | apply below_alloc | apply pw_below_drewN | apply below_drew1) | exact HB.out)) HG.out); rintro e w' ⟨rfl, ⟨nd, rfl⟩⟩; refine ⟨_, rfl, ?_⟩) | ((with_reducible refine gate_callee (f := 15) rfl ?_); refine goesL_ (some 49) rfl rfl Tryd.func15 (by kernel_rfl) rfl #[.int .i64 (wrap64 (a0)), .int .i64 4] rfl (by (try simp only [List.map_toArray, List.map_cons, List.map_nil]); first | done | rfl | (simp only [List.length_drop, List.length_take]; rfl)) ?_; (with_reducible refine (transposallaw04_digits.calls (wrap64 (a0)) 4 t255 _ A10.out).mono ?_); rintro e w' ⟨rfl, ⟨nd, rfl⟩⟩; refine ⟨_, rfl, ?_⟩) | ((with_reducible refine gate_callee (f := 15) rfl ?_); refine goesL_ (some 53) rfl rfl Tryd.func15 (by kernel_rfl) rfl #[.int .i64 (wrap64 (a1)), .int .i64 2] rfl (by (try simp only [List.map_toArray, List.map_cons, List.map_nil]); first | done | rfl | (simp only [List.length_drop, List.length_take]; rfl)) ?_; (with_reducible refine (transposallaw04_digits.calls (wrap64 (a1)) 2 t256 _ A12.out).mono ?_); rintro e w' ⟨rfl, ⟨nd, rfl⟩⟩; refine ⟨_, rfl, ?_⟩) | ((with_reducible refine gate_callee (f := 15) rfl ?_); refine goesL_ (some 58) rfl rfl Tryd.func15 (by kernel_rfl) rfl #[.int .i64 (wrap64 (a2)), .int .i64 2] rfl (by (try simp only [List.map_toArray, List.map_cons, List.map_nil]); first | done | rfl | (simp only [List.length_drop, List.length_take]; rfl)) ?_; (with_reducible refine (transposallaw04_digits.calls (wrap64 (a2)) 2 t257 _ A15.out).mono ?_); rintro e w' ⟨rfl, ⟨nd, rfl⟩⟩; refine ⟨_, rfl, ?_⟩) | ((with_reducible refine gate_callee (f := 16) rfl ?_); refine goesL_ (some 62) rfl rfl Tryd.func16 (by kernel_rfl) rfl #[.string ((((t255 ++ (⟨#[45]⟩ : ByteArray)) ++ t256) ++ (⟨#[45]⟩ : ByteArray)) ++ t257)] rfl (by (try simp only [List.map_toArray, List.map_cons, List.map_nil]); first | done | rfl | (simp only [List.length_drop, List.length_take]; rfl)) ?_; (with_reducible refine (day_Parse.calls k ((((t255 ++ (⟨#[45]⟩ : ByteArray)) ++ t256) ++ (⟨#[45]⟩ : ByteArray)) ++ t257) t258 t259 _ ?side1 A17.out).mono ?_); (case side1 => exact Glob.below (by repeat (first | (with_reducible first | exact HB.out | apply below_alloc | apply pw_below_drewN | apply below_drew1) | exact HB.out)) HG.out); rintro e w34 ⟨rfl, hb⟩; refine ⟨_, rfl, ?_⟩; have n0_ := Aside0.mk (below_step (by repeat (first | (with_reducible first | exact HB.out | apply below_alloc | apply pw_below_drewN | apply below_drew1) | exact HB.out)) hb); clear HB; have HB := n0_; clear n0_; (try clear hb); (try clear hb2); (try clear hk); (try clear hi)) | (go_at_call 10; (with_reducible refine (transposallaw04_Number.calls k (wrap64 (a0)) (wrap64 (a1)) (wrap64 (a2)) t260 _ A19.out).mono ?_); rintro e w' ⟨rfl, ⟨nd, rfl⟩⟩) | (go_at_call 11; (with_reducible refine (day_Day_Text.calls k t249 t261 _ ?side1 A24.out).mono ?_); (case side1 => exact Glob.below (by repeat (first | (with_reducible first | exact HB.out | apply below_alloc | apply pw_below_drewN | apply below_drew1) | exact HB.out)) HG.out); rintro e w35 ⟨rfl, hb⟩; have n0_ := Aside0.mk (below_step (by repeat (first | (with_reducible first | exact HB.out | apply below_alloc | apply pw_below_drewN | apply below_drew1) | exact HB.out)) hb); clear HB; have HB := n0_; clear n0_; (try clear hb); (try clear hb2); (try clear hk); (try clear hi)))
                          go_ret
                          exact ⟨by first | rfl | (simp [errW_none, errW_some] <;> rfl) | (simp [*, errW_none, errW_some] <;> rfl), by repeat (first | (with_reducible first | exact HB.out | apply below_alloc | apply pw_below_drewN | apply below_drew1) | exact HB.out)⟩
                      · rw [if_neg c23] at H
                        have c23b0 : (t254 == (wrap64 (a2))) = false := beq_eq_false_iff_ne.mpr c23
                        have c23b1 : (t254 != (wrap64 (a2))) = true := bne_iff_ne.mpr c23
                        obtain rfl := Option.some.inj H
                        go_enter Tryd.func6, Tryd.ntmps6
                        go_wp2_with (first | ((with_reducible refine gate_callee (f := 8) rfl ?_); refine goesL_ (some 15) rfl rfl Tryd.func8 (by kernel_rfl) rfl #[] rfl (by (try simp only [List.map_toArray, List.map_cons, List.map_nil]); first | done | rfl | (simp only [List.length_drop, List.length_take]; rfl)) ?_; (with_reducible refine (transposallaw04_Awake.calls k  true _ ?side1 A4.out).mono ?_); (case side1 => exact Glob.below (by repeat (first | (with_reducible first | exact HB.out | apply below_alloc | apply pw_below_drewN | apply below_drew1) | exact HB.out)) HG.out); rintro e w36 ⟨rfl, hb⟩; refine ⟨_, rfl, ?_⟩; have n0_ := Aside0.mk (below_step (by repeat (first | (with_reducible first | exact HB.out | apply below_alloc | apply pw_below_drewN | apply below_drew1) | exact HB.out)) hb); clear HB; have HB := n0_; clear n0_; (try clear hb); (try clear hb2); (try clear hk); (try clear hi)) | ((with_reducible refine gate_callee (f := 13) rfl ?_); refine goesL_ (some 24) rfl rfl Tryd.func13 (by kernel_rfl) rfl #[.int .i64 (wrap64 (a0)), .int .i64 (wrap64 (a1)), .int .i64 (wrap64 (a2))] rfl (by (try simp only [List.map_toArray, List.map_cons, List.map_nil]); first | done | rfl | (simp only [List.length_drop, List.length_take]; rfl)) ?_; (with_reducible refine (day_Of.calls k (wrap64 (a0)) (wrap64 (a1)) (wrap64 (a2)) t249 true _ ?side1 A6.out).mono ?_); (case side1 => exact Glob.below (by repeat (first | (with_reducible first | exact HB.out | apply below_alloc | apply pw_below_drewN | apply below_drew1) | exact HB.out)) HG.out); rintro e w' ⟨rfl, ⟨nd, rfl⟩⟩; refine ⟨_, rfl, ?_⟩) | ((with_reducible refine gate_callee (f := 12) rfl ?_); refine goesL_ (some 33) rfl rfl Tryd.func12 (by kernel_rfl) rfl #[.int .i64 (wrap64 (a0)), .int .i64 (wrap64 (a1)), .int .i64 (wrap64 (a2))] rfl (by (try simp only [List.map_toArray, List.map_cons, List.map_nil]); first | done | rfl | (simp only [List.length_drop, List.length_take]; rfl)) ?_; (with_reducible refine (transposallaw04_Right.calls k (wrap64 (a0)) (wrap64 (a1)) (wrap64 (a2)) true _ A7.out).mono ?_); rintro e w' ⟨rfl, ⟨nd, rfl⟩⟩; refine ⟨_, rfl, ?_⟩) | ((with_reducible refine gate_callee (f := 9) rfl ?_); refine goesL_ (some 43) rfl rfl Tryd.func9 (by kernel_rfl) rfl #[.int .i32 t249] rfl (by (try simp only [List.map_toArray, List.map_cons, List.map_nil]); first | done | rfl | (simp only [List.length_drop, List.length_take]; rfl)) ?_; (with_reducible refine (day_Day_Date.calls k t249 t252 t253 t254 _ ?side1 A9.out).mono ?_); (case side1 => exact Glob.below (by repeat (first | (with_reducible first | exact HB.out | apply below_alloc | apply pw_below_drewN | apply below_drew1) | exact HB.out)) HG.out); rintro e w' ⟨rfl, ⟨nd, rfl⟩⟩; refine ⟨_, rfl, ?_⟩) | ((with_reducible refine gate_callee (f := 15) rfl ?_); refine goesL_ (some 49) rfl rfl Tryd.func15 (by kernel_rfl) rfl #[.int .i64 (wrap64 (a0)), .int .i64 4] rfl (by (try simp only [List.map_toArray, List.map_cons, List.map_nil]); first | done | rfl | (simp only [List.length_drop, List.length_take]; rfl)) ?_; (with_reducible refine (transposallaw04_digits.calls (wrap64 (a0)) 4 t255 _ A10.out).mono ?_); rintro e w' ⟨rfl, ⟨nd, rfl⟩⟩; refine ⟨_, rfl, ?_⟩) | ((with_reducible refine gate_callee (f := 15) rfl ?_); refine goesL_ (some 53) rfl rfl Tryd.func15 (by kernel_rfl) rfl #[.int .i64 (wrap64 (a1)), .int .i64 2] rfl (by (try simp only [List.map_toArray, List.map_cons, List.map_nil]); first | done | rfl | (simp only [List.length_drop, List.length_take]; rfl)) ?_; (with_reducible refine (transposallaw04_digits.calls (wrap64 (a1)) 2 t256 _ A12.out).mono ?_); rintro e w' ⟨rfl, ⟨nd, rfl⟩⟩; refine ⟨_, rfl, ?_⟩) | ((with_reducible refine gate_callee (f := 15) rfl ?_); refine goesL_ (some 58) rfl rfl Tryd.func15 (by kernel_rfl) rfl #[.int .i64 (wrap64 (a2)), .int .i64 2] rfl (by (try simp only [List.map_toArray, List.map_cons, List.map_nil]); first | done | rfl | (simp only [List.length_drop, List.length_take]; rfl)) ?_; (with_reducible refine (transposallaw04_digits.calls (wrap64 (a2)) 2 t257 _ A15.out).mono ?_); rintro e w' ⟨rfl, ⟨nd, rfl⟩⟩; refine ⟨_, rfl, ?_⟩) | ((with_reducible refine gate_callee (f := 16) rfl ?_); refine goesL_ (some 62) rfl rfl Tryd.func16 (by kernel_rfl) rfl #[.string ((((t255 ++ (⟨#[45]⟩ : ByteArray)) ++ t256) ++ (⟨#[45]⟩ : ByteArray)) ++ t257)] rfl (by (try simp only [List.map_toArray, List.map_cons, List.map_nil]); first | done | rfl | (simp only [List.length_drop, List.length_take]; rfl)) ?_; (with_reducible refine (day_Parse.calls k ((((t255 ++ (⟨#[45]⟩ : ByteArray)) ++ t256) ++ (⟨#[45]⟩ : ByteArray)) ++ t257) t258 t259 _ ?side1 A17.out).mono ?_); (case side1 => exact Glob.below (by repeat (first | (with_reducible first | exact HB.out | apply below_alloc | apply pw_below_drewN | apply below_drew1) | exact HB.out)) HG.out); rintro e w37 ⟨rfl, hb⟩; refine ⟨_, rfl, ?_⟩; have n0_ := Aside0.mk (below_step (by repeat (first | (with_reducible first | exact HB.out | apply below_alloc | apply pw_below_drewN | apply below_drew1) | exact HB.out)) hb); clear HB; have HB := n0_; clear n0_; (try clear hb); (try clear hb2); (try clear hk); (try clear hi)) | (go_at_call 10; (with_reducible refine (transposallaw04_Number.calls k (wrap64 (a0)) (wrap64 (a1)) (wrap64 (a2)) t260 _ A19.out).mono ?_); rintro e w' ⟨rfl, ⟨nd, rfl⟩⟩))
                        go_ret
                        exact ⟨by first | rfl | (simp [errW_none, errW_some] <;> rfl) | (simp [*, errW_none, errW_some] <;> rfl), by repeat (first | (with_reducible first | exact HB.out | apply below_alloc | apply pw_below_drewN | apply below_drew1) | exact HB.out)⟩
                    · rw [if_neg c22] at H
                      have c22b0 : (t253 == (wrap64 (a1))) = false := beq_eq_false_iff_ne.mpr c22
                      have c22b1 : (t253 != (wrap64 (a1))) = true := bne_iff_ne.mpr c22
                      obtain rfl := Option.some.inj H
                      go_enter Tryd.func6, Tryd.ntmps6
                      go_wp2_with (first | ((with_reducible refine gate_callee (f := 8) rfl ?_); refine goesL_ (some 15) rfl rfl Tryd.func8 (by kernel_rfl) rfl #[] rfl (by (try simp only [List.map_toArray, List.map_cons, List.map_nil]); first | done | rfl | (simp only [List.length_drop, List.length_take]; rfl)) ?_; (with_reducible refine (transposallaw04_Awake.calls k  true _ ?side1 A4.out).mono ?_); (case side1 => exact Glob.below (by repeat (first | (with_reducible first | exact HB.out | apply below_alloc | apply pw_below_drewN | apply below_drew1) | exact HB.out)) HG.out); rintro e w38 ⟨rfl, hb⟩; refine ⟨_, rfl, ?_⟩; have n0_ := Aside0.mk (below_step (by repeat (first | (with_reducible first | exact HB.out | apply below_alloc | apply pw_below_drewN | apply below_drew1) | exact HB.out)) hb); clear HB; have HB := n0_; clear n0_; (try clear hb); (try clear hb2); (try clear hk); (try clear hi)) | ((with_reducible refine gate_callee (f := 13) rfl ?_); refine goesL_ (some 24) rfl rfl Tryd.func13 (by kernel_rfl) rfl #[.int .i64 (wrap64 (a0)), .int .i64 (wrap64 (a1)), .int .i64 (wrap64 (a2))] rfl (by (try simp only [List.map_toArray, List.map_cons, List.map_nil]); first | done | rfl | (simp only [List.length_drop, List.length_take]; rfl)) ?_; (with_reducible refine (day_Of.calls k (wrap64 (a0)) (wrap64 (a1)) (wrap64 (a2)) t249 true _ ?side1 A6.out).mono ?_); (case side1 => exact Glob.below (by repeat (first | (with_reducible first | exact HB.out | apply below_alloc | apply pw_below_drewN | apply below_drew1) | exact HB.out)) HG.out); rintro e w' ⟨rfl, ⟨nd, rfl⟩⟩; refine ⟨_, rfl, ?_⟩) | ((with_reducible refine gate_callee (f := 12) rfl ?_); refine goesL_ (some 33) rfl rfl Tryd.func12 (by kernel_rfl) rfl #[.int .i64 (wrap64 (a0)), .int .i64 (wrap64 (a1)), .int .i64 (wrap64 (a2))] rfl (by (try simp only [List.map_toArray, List.map_cons, List.map_nil]); first | done | rfl | (simp only [List.length_drop, List.length_take]; rfl)) ?_; (with_reducible refine (transposallaw04_Right.calls k (wrap64 (a0)) (wrap64 (a1)) (wrap64 (a2)) true _ A7.out).mono ?_); rintro e w' ⟨rfl, ⟨nd, rfl⟩⟩; refine ⟨_, rfl, ?_⟩) | ((with_reducible refine gate_callee (f := 9) rfl ?_); refine goesL_ (some 43) rfl rfl Tryd.func9 (by kernel_rfl) rfl #[.int .i32 t249] rfl (by (try simp only [List.map_toArray, List.map_cons, List.map_nil]); first | done | rfl | (simp only [List.length_drop, List.length_take]; rfl)) ?_; (with_reducible refine (day_Day_Date.calls k t249 t252 t253 t254 _ ?side1 A9.out).mono ?_); (case side1 => exact Glob.below (by repeat (first | (with_reducible first | exact HB.out | apply below_alloc | apply pw_below_drewN | apply below_drew1) | exact HB.out)) HG.out); rintro e w' ⟨rfl, ⟨nd, rfl⟩⟩; refine ⟨_, rfl, ?_⟩) | ((with_reducible refine gate_callee (f := 15) rfl ?_); refine goesL_ (some 49) rfl rfl Tryd.func15 (by kernel_rfl) rfl #[.int .i64 (wrap64 (a0)), .int .i64 4] rfl (by (try simp only [List.map_toArray, List.map_cons, List.map_nil]); first | done | rfl | (simp only [List.length_drop, List.length_take]; rfl)) ?_; (with_reducible refine (transposallaw04_digits.calls (wrap64 (a0)) 4 t255 _ A10.out).mono ?_); rintro e w' ⟨rfl, ⟨nd, rfl⟩⟩; refine ⟨_, rfl, ?_⟩) | ((with_reducible refine gate_callee (f := 15) rfl ?_); refine goesL_ (some 53) rfl rfl Tryd.func15 (by kernel_rfl) rfl #[.int .i64 (wrap64 (a1)), .int .i64 2] rfl (by (try simp only [List.map_toArray, List.map_cons, List.map_nil]); first | done | rfl | (simp only [List.length_drop, List.length_take]; rfl)) ?_; (with_reducible refine (transposallaw04_digits.calls (wrap64 (a1)) 2 t256 _ A12.out).mono ?_); rintro e w' ⟨rfl, ⟨nd, rfl⟩⟩; refine ⟨_, rfl, ?_⟩) | ((with_reducible refine gate_callee (f := 15) rfl ?_); refine goesL_ (some 58) rfl rfl Tryd.func15 (by kernel_rfl) rfl #[.int .i64 (wrap64 (a2)), .int .i64 2] rfl (by (try simp only [List.map_toArray, List.map_cons, List.map_nil]); first | done | rfl | (simp only [List.length_drop, List.length_take]; rfl)) ?_; (with_reducible refine (transposallaw04_digits.calls (wrap64 (a2)) 2 t257 _ A15.out).mono ?_); rintro e w' ⟨rfl, ⟨nd, rfl⟩⟩; refine ⟨_, rfl, ?_⟩) | ((with_reducible refine gate_callee (f := 16) rfl ?_); refine goesL_ (some 62) rfl rfl Tryd.func16 (by kernel_rfl) rfl #[.string ((((t255 ++ (⟨#[45]⟩ : ByteArray)) ++ t256) ++ (⟨#[45]⟩ : ByteArray)) ++ t257)] rfl (by (try simp only [List.map_toArray, List.map_cons, List.map_nil]); first | done | rfl | (simp only [List.length_drop, List.length_take]; rfl)) ?_; (with_reducible refine (day_Parse.calls k ((((t255 ++ (⟨#[45]⟩ : ByteArray)) ++ t256) ++ (⟨#[45]⟩ : ByteArray)) ++ t257) t258 t259 _ ?side1 A17.out).mono ?_); (case side1 => exact Glob.below (by repeat (first | (with_reducible first | exact HB.out | apply below_alloc | apply pw_below_drewN | apply below_drew1) | exact HB.out)) HG.out); rintro e w39 ⟨rfl, hb⟩; refine ⟨_, rfl, ?_⟩; have n0_ := Aside0.mk (below_step (by repeat (first | (with_reducible first | exact HB.out | apply below_alloc | apply pw_below_drewN | apply below_drew1) | exact HB.out)) hb); clear HB; have HB := n0_; clear n0_; (try clear hb); (try clear hb2); (try clear hk); (try clear hi)) | (go_at_call 10; (with_reducible refine (transposallaw04_Number.calls k (wrap64 (a0)) (wrap64 (a1)) (wrap64 (a2)) t260 _ A19.out).mono ?_); rintro e w' ⟨rfl, ⟨nd, rfl⟩⟩))
                      go_ret
                      exact ⟨by first | rfl | (simp [errW_none, errW_some] <;> rfl) | (simp [*, errW_none, errW_some] <;> rfl), by repeat (first | (with_reducible first | exact HB.out | apply below_alloc | apply pw_below_drewN | apply below_drew1) | exact HB.out)⟩
                  · rw [if_neg c21] at H
                    have c21b0 : (t252 == (wrap64 (a0))) = false := beq_eq_false_iff_ne.mpr c21
                    have c21b1 : (t252 != (wrap64 (a0))) = true := bne_iff_ne.mpr c21
                    obtain rfl := Option.some.inj H
                    go_enter Tryd.func6, Tryd.ntmps6
                    go_wp2_with (first | ((with_reducible refine gate_callee (f := 8) rfl ?_); refine goesL_ (some 15) rfl rfl Tryd.func8 (by kernel_rfl) rfl #[] rfl (by (try simp only [List.map_toArray, List.map_cons, List.map_nil]); first | done | rfl | (simp only [List.length_drop, List.length_take]; rfl)) ?_; (with_reducible refine (transposallaw04_Awake.calls k  true _ ?side1 A4.out).mono ?_); (case side1 => exact Glob.below (by repeat (first | (with_reducible first | exact HB.out | apply below_alloc | apply pw_below_drewN | apply below_drew1) | exact HB.out)) HG.out); rintro e w40 ⟨rfl, hb⟩; refine ⟨_, rfl, ?_⟩; have n0_ := Aside0.mk (below_step (by repeat (first | (with_reducible first | exact HB.out | apply below_alloc | apply pw_below_drewN | apply below_drew1) | exact HB.out)) hb); clear HB; have HB := n0_; clear n0_; (try clear hb); (try clear hb2); (try clear hk); (try clear hi)) | ((with_reducible refine gate_callee (f := 13) rfl ?_); refine goesL_ (some 24) rfl rfl Tryd.func13 (by kernel_rfl) rfl #[.int .i64 (wrap64 (a0)), .int .i64 (wrap64 (a1)), .int .i64 (wrap64 (a2))] rfl (by (try simp only [List.map_toArray, List.map_cons, List.map_nil]); first | done | rfl | (simp only [List.length_drop, List.length_take]; rfl)) ?_; (with_reducible refine (day_Of.calls k (wrap64 (a0)) (wrap64 (a1)) (wrap64 (a2)) t249 true _ ?side1 A6.out).mono ?_); (case side1 => exact Glob.below (by repeat (first | (with_reducible first | exact HB.out | apply below_alloc | apply pw_below_drewN | apply below_drew1) | exact HB.out)) HG.out); rintro e w' ⟨rfl, ⟨nd, rfl⟩⟩; refine ⟨_, rfl, ?_⟩) | ((with_reducible refine gate_callee (f := 12) rfl ?_); refine goesL_ (some 33) rfl rfl Tryd.func12 (by kernel_rfl) rfl #[.int .i64 (wrap64 (a0)), .int .i64 (wrap64 (a1)), .int .i64 (wrap64 (a2))] rfl (by (try simp only [List.map_toArray, List.map_cons, List.map_nil]); first | done | rfl | (simp only [List.length_drop, List.length_take]; rfl)) ?_; (with_reducible refine (transposallaw04_Right.calls k (wrap64 (a0)) (wrap64 (a1)) (wrap64 (a2)) true _ A7.out).mono ?_); rintro e w' ⟨rfl, ⟨nd, rfl⟩⟩; refine ⟨_, rfl, ?_⟩) | ((with_reducible refine gate_callee (f := 9) rfl ?_); refine goesL_ (some 43) rfl rfl Tryd.func9 (by kernel_rfl) rfl #[.int .i32 t249] rfl (by (try simp only [List.map_toArray, List.map_cons, List.map_nil]); first | done | rfl | (simp only [List.length_drop, List.length_take]; rfl)) ?_; (with_reducible refine (day_Day_Date.calls k t249 t252 t253 t254 _ ?side1 A9.out).mono ?_); (case side1 => exact Glob.below (by repeat (first | (with_reducible first | exact HB.out | apply below_alloc | apply pw_below_drewN | apply below_drew1) | exact HB.out)) HG.out); rintro e w' ⟨rfl, ⟨nd, rfl⟩⟩; refine ⟨_, rfl, ?_⟩) | ((with_reducible refine gate_callee (f := 15) rfl ?_); refine goesL_ (some 49) rfl rfl Tryd.func15 (by kernel_rfl) rfl #[.int .i64 (wrap64 (a0)), .int .i64 4] rfl (by (try simp only [List.map_toArray, List.map_cons, List.map_nil]); first | done | rfl | (simp only [List.length_drop, List.length_take]; rfl)) ?_; (with_reducible refine (transposallaw04_digits.calls (wrap64 (a0)) 4 t255 _ A10.out).mono ?_); rintro e w' ⟨rfl, ⟨nd, rfl⟩⟩; refine ⟨_, rfl, ?_⟩) | ((with_reducible refine gate_callee (f := 15) rfl ?_); refine goesL_ (some 53) rfl rfl Tryd.func15 (by kernel_rfl) rfl #[.int .i64 (wrap64 (a1)), .int .i64 2] rfl (by (try simp only [List.map_toArray, List.map_cons, List.map_nil]); first | done | rfl | (simp only [List.length_drop, List.length_take]; rfl)) ?_; (with_reducible refine (transposallaw04_digits.calls (wrap64 (a1)) 2 t256 _ A12.out).mono ?_); rintro e w' ⟨rfl, ⟨nd, rfl⟩⟩; refine ⟨_, rfl, ?_⟩) | ((with_reducible refine gate_callee (f := 15) rfl ?_); refine goesL_ (some 58) rfl rfl Tryd.func15 (by kernel_rfl) rfl #[.int .i64 (wrap64 (a2)), .int .i64 2] rfl (by (try simp only [List.map_toArray, List.map_cons, List.map_nil]); first | done | rfl | (simp only [List.length_drop, List.length_take]; rfl)) ?_; (with_reducible refine (transposallaw04_digits.calls (wrap64 (a2)) 2 t257 _ A15.out).mono ?_); rintro e w' ⟨rfl, ⟨nd, rfl⟩⟩; refine ⟨_, rfl, ?_⟩) | ((with_reducible refine gate_callee (f := 16) rfl ?_); refine goesL_ (some 62) rfl rfl Tryd.func16 (by kernel_rfl) rfl #[.string ((((t255 ++ (⟨#[45]⟩ : ByteArray)) ++ t256) ++ (⟨#[45]⟩ : ByteArray)) ++ t257)] rfl (by (try simp only [List.map_toArray, List.map_cons, List.map_nil]); first | done | rfl | (simp only [List.length_drop, List.length_take]; rfl)) ?_; (with_reducible refine (day_Parse.calls k ((((t255 ++ (⟨#[45]⟩ : ByteArray)) ++ t256) ++ (⟨#[45]⟩ : ByteArray)) ++ t257) t258 t259 _ ?side1 A17.out).mono ?_); (case side1 => exact Glob.below (by repeat (first | (with_reducible first | exact HB.out | apply below_alloc | apply pw_below_drewN | apply below_drew1) | exact HB.out)) HG.out); rintro e w41 ⟨rfl, hb⟩; refine ⟨_, rfl, ?_⟩; have n0_ := Aside0.mk (below_step (by repeat (first | (with_reducible first | exact HB.out | apply below_alloc | apply pw_below_drewN | apply below_drew1) | exact HB.out)) hb); clear HB; have HB := n0_; clear n0_; (try clear hb); (try clear hb2); (try clear hk); (try clear hi)) | (go_at_call 10; (with_reducible refine (transposallaw04_Number.calls k (wrap64 (a0)) (wrap64 (a1)) (wrap64 (a2)) t260 _ A19.out).mono ?_); rintro e w' ⟨rfl, ⟨nd, rfl⟩⟩))
                    go_ret
                    exact ⟨by first | rfl | (simp [errW_none, errW_some] <;> rfl) | (simp [*, errW_none, errW_some] <;> rfl), by repeat (first | (with_reducible first | exact HB.out | apply below_alloc | apply pw_below_drewN | apply below_drew1) | exact HB.out)⟩
                · rw [if_neg c20] at H
                  have c20b0 : ((wrap64 (t249)) == t260) = false := beq_eq_false_iff_ne.mpr c20
                  have c20b1 : ((wrap64 (t249)) != t260) = true := bne_iff_ne.mpr c20
                  obtain rfl := Option.some.inj H
                  go_enter Tryd.func6, Tryd.ntmps6
                  go_wp2_with (first | ((with_reducible refine gate_callee (f := 8) rfl ?_); refine goesL_ (some 15) rfl rfl Tryd.func8 (by kernel_rfl) rfl #[] rfl (by (try simp only [List.map_toArray, List.map_cons, List.map_nil]); first | done | rfl | (simp only [List.length_drop, List.length_take]; rfl)) ?_; (with_reducible refine (transposallaw04_Awake.calls k  true _ ?side1 A4.out).mono ?_); (case side1 => exact Glob.below (by repeat (first | (with_reducible first | exact HB.out | apply below_alloc | apply pw_below_drewN | apply below_drew1) | exact HB.out)) HG.out); rintro e w42 ⟨rfl, hb⟩; refine ⟨_, rfl, ?_⟩; have n0_ := Aside0.mk (below_step (by repeat (first | (with_reducible first | exact HB.out | apply below_alloc | apply pw_below_drewN | apply below_drew1) | exact HB.out)) hb); clear HB; have HB := n0_; clear n0_; (try clear hb); (try clear hb2); (try clear hk); (try clear hi)) | ((with_reducible refine gate_callee (f := 13) rfl ?_); refine goesL_ (some 24) rfl rfl Tryd.func13 (by kernel_rfl) rfl #[.int .i64 (wrap64 (a0)), .int .i64 (wrap64 (a1)), .int .i64 (wrap64 (a2))] rfl (by (try simp only [List.map_toArray, List.map_cons, List.map_nil]); first | done | rfl | (simp only [List.length_drop, List.length_take]; rfl)) ?_; (with_reducible refine (day_Of.calls k (wrap64 (a0)) (wrap64 (a1)) (wrap64 (a2)) t249 true _ ?side1 A6.out).mono ?_); (case side1 => exact Glob.below (by repeat (first | (with_reducible first | exact HB.out | apply below_alloc | apply pw_below_drewN | apply below_drew1) | exact HB.out)) HG.out); rintro e w' ⟨rfl, ⟨nd, rfl⟩⟩; refine ⟨_, rfl, ?_⟩) | ((with_reducible refine gate_callee (f := 12) rfl ?_); refine goesL_ (some 33) rfl rfl Tryd.func12 (by kernel_rfl) rfl #[.int .i64 (wrap64 (a0)), .int .i64 (wrap64 (a1)), .int .i64 (wrap64 (a2))] rfl (by (try simp only [List.map_toArray, List.map_cons, List.map_nil]); first | done | rfl | (simp only [List.length_drop, List.length_take]; rfl)) ?_; (with_reducible refine (transposallaw04_Right.calls k (wrap64 (a0)) (wrap64 (a1)) (wrap64 (a2)) true _ A7.out).mono ?_); rintro e w' ⟨rfl, ⟨nd, rfl⟩⟩; refine ⟨_, rfl, ?_⟩) | ((with_reducible refine gate_callee (f := 9) rfl ?_); refine goesL_ (some 43) rfl rfl Tryd.func9 (by kernel_rfl) rfl #[.int .i32 t249] rfl (by (try simp only [List.map_toArray, List.map_cons, List.map_nil]); first | done | rfl | (simp only [List.length_drop, List.length_take]; rfl)) ?_; (with_reducible refine (day_Day_Date.calls k t249 t252 t253 t254 _ ?side1 A9.out).mono ?_); (case side1 => exact Glob.below (by repeat (first | (with_reducible first | exact HB.out | apply below_alloc | apply pw_below_drewN | apply below_drew1) | exact HB.out)) HG.out); rintro e w' ⟨rfl, ⟨nd, rfl⟩⟩; refine ⟨_, rfl, ?_⟩) | ((with_reducible refine gate_callee (f := 15) rfl ?_); refine goesL_ (some 49) rfl rfl Tryd.func15 (by kernel_rfl) rfl #[.int .i64 (wrap64 (a0)), .int .i64 4] rfl (by (try simp only [List.map_toArray, List.map_cons, List.map_nil]); first | done | rfl | (simp only [List.length_drop, List.length_take]; rfl)) ?_; (with_reducible refine (transposallaw04_digits.calls (wrap64 (a0)) 4 t255 _ A10.out).mono ?_); rintro e w' ⟨rfl, ⟨nd, rfl⟩⟩; refine ⟨_, rfl, ?_⟩) | ((with_reducible refine gate_callee (f := 15) rfl ?_); refine goesL_ (some 53) rfl rfl Tryd.func15 (by kernel_rfl) rfl #[.int .i64 (wrap64 (a1)), .int .i64 2] rfl (by (try simp only [List.map_toArray, List.map_cons, List.map_nil]); first | done | rfl | (simp only [List.length_drop, List.length_take]; rfl)) ?_; (with_reducible refine (transposallaw04_digits.calls (wrap64 (a1)) 2 t256 _ A12.out).mono ?_); rintro e w' ⟨rfl, ⟨nd, rfl⟩⟩; refine ⟨_, rfl, ?_⟩) | ((with_reducible refine gate_callee (f := 15) rfl ?_); refine goesL_ (some 58) rfl rfl Tryd.func15 (by kernel_rfl) rfl #[.int .i64 (wrap64 (a2)), .int .i64 2] rfl (by (try simp only [List.map_toArray, List.map_cons, List.map_nil]); first | done | rfl | (simp only [List.length_drop, List.length_take]; rfl)) ?_; (with_reducible refine (transposallaw04_digits.calls (wrap64 (a2)) 2 t257 _ A15.out).mono ?_); rintro e w' ⟨rfl, ⟨nd, rfl⟩⟩; refine ⟨_, rfl, ?_⟩) | ((with_reducible refine gate_callee (f := 16) rfl ?_); refine goesL_ (some 62) rfl rfl Tryd.func16 (by kernel_rfl) rfl #[.string ((((t255 ++ (⟨#[45]⟩ : ByteArray)) ++ t256) ++ (⟨#[45]⟩ : ByteArray)) ++ t257)] rfl (by (try simp only [List.map_toArray, List.map_cons, List.map_nil]); first | done | rfl | (simp only [List.length_drop, List.length_take]; rfl)) ?_; (with_reducible refine (day_Parse.calls k ((((t255 ++ (⟨#[45]⟩ : ByteArray)) ++ t256) ++ (⟨#[45]⟩ : ByteArray)) ++ t257) t258 t259 _ ?side1 A17.out).mono ?_); (case side1 => exact Glob.below (by repeat (first | (with_reducible first | exact HB.out | apply below_alloc | apply pw_below_drewN | apply below_drew1) | exact HB.out)) HG.out); rintro e w43 ⟨rfl, hb⟩; refine ⟨_, rfl, ?_⟩; have n0_ := Aside0.mk (below_step (by repeat (first | (with_reducible first | exact HB.out | apply below_alloc | apply pw_below_drewN | apply below_drew1) | exact HB.out)) hb); clear HB; have HB := n0_; clear n0_; (try clear hb); (try clear hb2); (try clear hk); (try clear hi)) | (go_at_call 10; (with_reducible refine (transposallaw04_Number.calls k (wrap64 (a0)) (wrap64 (a1)) (wrap64 (a2)) t260 _ A19.out).mono ?_); rintro e w' ⟨rfl, ⟨nd, rfl⟩⟩))
                  go_ret
                  exact ⟨by first | rfl | (simp [errW_none, errW_some] <;> rfl) | (simp [*, errW_none, errW_some] <;> rfl), by repeat (first | (with_reducible first | exact HB.out | apply below_alloc | apply pw_below_drewN | apply below_drew1) | exact HB.out)⟩
              · replace c18 := Bool.eq_false_iff.mpr c18
                subst c18
                have H1 : (some false) = some r := by rw [if_neg (show ¬ (false = true) by decide)] at H; exact H
                clear H
                have H := H1
                clear H1
                obtain rfl := Option.some.inj H
                go_enter Tryd.func6, Tryd.ntmps6
                go_wp2_with (first | ((with_reducible refine gate_callee (f := 8) rfl ?_); refine goesL_ (some 15) rfl rfl Tryd.func8 (by kernel_rfl) rfl #[] rfl (by (try simp only [List.map_toArray, List.map_cons, List.map_nil]); first | done | rfl | (simp only [List.length_drop, List.length_take]; rfl)) ?_; (with_reducible refine (transposallaw04_Awake.calls k  true _ ?side1 A4.out).mono ?_); (case side1 => exact Glob.below (by repeat (first | (with_reducible first | exact HB.out | apply below_alloc | apply pw_below_drewN | apply below_drew1) | exact HB.out)) HG.out); rintro e w44 ⟨rfl, hb⟩; refine ⟨_, rfl, ?_⟩; have n0_ := Aside0.mk (below_step (by repeat (first | (with_reducible first | exact HB.out | apply below_alloc | apply pw_below_drewN | apply below_drew1) | exact HB.out)) hb); clear HB; have HB := n0_; clear n0_; (try clear hb); (try clear hb2); (try clear hk); (try clear hi)) | ((with_reducible refine gate_callee (f := 13) rfl ?_); refine goesL_ (some 24) rfl rfl Tryd.func13 (by kernel_rfl) rfl #[.int .i64 (wrap64 (a0)), .int .i64 (wrap64 (a1)), .int .i64 (wrap64 (a2))] rfl (by (try simp only [List.map_toArray, List.map_cons, List.map_nil]); first | done | rfl | (simp only [List.length_drop, List.length_take]; rfl)) ?_; (with_reducible refine (day_Of.calls k (wrap64 (a0)) (wrap64 (a1)) (wrap64 (a2)) t249 false _ ?side1 A6.out).mono ?_); (case side1 => exact Glob.below (by repeat (first | (with_reducible first | exact HB.out | apply below_alloc | apply pw_below_drewN | apply below_drew1) | exact HB.out)) HG.out); rintro e w' ⟨rfl, ⟨nd, rfl⟩⟩; refine ⟨_, rfl, ?_⟩) | ((with_reducible refine gate_callee (f := 12) rfl ?_); refine goesL_ (some 33) rfl rfl Tryd.func12 (by kernel_rfl) rfl #[.int .i64 (wrap64 (a0)), .int .i64 (wrap64 (a1)), .int .i64 (wrap64 (a2))] rfl (by (try simp only [List.map_toArray, List.map_cons, List.map_nil]); first | done | rfl | (simp only [List.length_drop, List.length_take]; rfl)) ?_; (with_reducible refine (transposallaw04_Right.calls k (wrap64 (a0)) (wrap64 (a1)) (wrap64 (a2)) true _ A7.out).mono ?_); rintro e w' ⟨rfl, ⟨nd, rfl⟩⟩; refine ⟨_, rfl, ?_⟩) | ((with_reducible refine gate_callee (f := 9) rfl ?_); refine goesL_ (some 43) rfl rfl Tryd.func9 (by kernel_rfl) rfl #[.int .i32 t249] rfl (by (try simp only [List.map_toArray, List.map_cons, List.map_nil]); first | done | rfl | (simp only [List.length_drop, List.length_take]; rfl)) ?_; (with_reducible refine (day_Day_Date.calls k t249 t252 t253 t254 _ ?side1 A9.out).mono ?_); (case side1 => exact Glob.below (by repeat (first | (with_reducible first | exact HB.out | apply below_alloc | apply pw_below_drewN | apply below_drew1) | exact HB.out)) HG.out); rintro e w' ⟨rfl, ⟨nd, rfl⟩⟩; refine ⟨_, rfl, ?_⟩) | ((with_reducible refine gate_callee (f := 15) rfl ?_); refine goesL_ (some 49) rfl rfl Tryd.func15 (by kernel_rfl) rfl #[.int .i64 (wrap64 (a0)), .int .i64 4] rfl (by (try simp only [List.map_toArray, List.map_cons, List.map_nil]); first | done | rfl | (simp only [List.length_drop, List.length_take]; rfl)) ?_; (with_reducible refine (transposallaw04_digits.calls (wrap64 (a0)) 4 t255 _ A10.out).mono ?_); rintro e w' ⟨rfl, ⟨nd, rfl⟩⟩; refine ⟨_, rfl, ?_⟩) | ((with_reducible refine gate_callee (f := 15) rfl ?_); refine goesL_ (some 53) rfl rfl Tryd.func15 (by kernel_rfl) rfl #[.int .i64 (wrap64 (a1)), .int .i64 2] rfl (by (try simp only [List.map_toArray, List.map_cons, List.map_nil]); first | done | rfl | (simp only [List.length_drop, List.length_take]; rfl)) ?_; (with_reducible refine (transposallaw04_digits.calls (wrap64 (a1)) 2 t256 _ A12.out).mono ?_); rintro e w' ⟨rfl, ⟨nd, rfl⟩⟩; refine ⟨_, rfl, ?_⟩) | ((with_reducible refine gate_callee (f := 15) rfl ?_); refine goesL_ (some 58) rfl rfl Tryd.func15 (by kernel_rfl) rfl #[.int .i64 (wrap64 (a2)), .int .i64 2] rfl (by (try simp only [List.map_toArray, List.map_cons, List.map_nil]); first | done | rfl | (simp only [List.length_drop, List.length_take]; rfl)) ?_; (with_reducible refine (transposallaw04_digits.calls (wrap64 (a2)) 2 t257 _ A15.out).mono ?_); rintro e w' ⟨rfl, ⟨nd, rfl⟩⟩; refine ⟨_, rfl, ?_⟩) | ((with_reducible refine gate_callee (f := 16) rfl ?_); refine goesL_ (some 62) rfl rfl Tryd.func16 (by kernel_rfl) rfl #[.string ((((t255 ++ (⟨#[45]⟩ : ByteArray)) ++ t256) ++ (⟨#[45]⟩ : ByteArray)) ++ t257)] rfl (by (try simp only [List.map_toArray, List.map_cons, List.map_nil]); first | done | rfl | (simp only [List.length_drop, List.length_take]; rfl)) ?_; (with_reducible refine (day_Parse.calls k ((((t255 ++ (⟨#[45]⟩ : ByteArray)) ++ t256) ++ (⟨#[45]⟩ : ByteArray)) ++ t257) t258 t259 _ ?side1 A17.out).mono ?_); (case side1 => exact Glob.below (by repeat (first | (with_reducible first | exact HB.out | apply below_alloc | apply pw_below_drewN | apply below_drew1) | exact HB.out)) HG.out); rintro e w45 ⟨rfl, hb⟩; refine ⟨_, rfl, ?_⟩; have n0_ := Aside0.mk (below_step (by repeat (first | (with_reducible first | exact HB.out | apply below_alloc | apply pw_below_drewN | apply below_drew1) | exact HB.out)) hb); clear HB; have HB := n0_; clear n0_; (try clear hb); (try clear hb2); (try clear hk); (try clear hi)))
                go_ret
                exact ⟨by first | rfl | (simp [errW_none, errW_some] <;> rfl) | (simp [*, errW_none, errW_some] <;> rfl), by repeat (first | (with_reducible first | exact HB.out | apply below_alloc | apply pw_below_drewN | apply below_drew1) | exact HB.out)⟩
            · rw [if_neg c16] at H
              exact absurd H (by simp)
          · rw [if_neg c14] at H
            exact absurd H (by simp)
        · rw [if_neg c13] at H
          exact absurd H (by simp)
      · rw [if_neg c11] at H
        exact absurd H (by simp)
    · replace c8 := Bool.eq_false_iff.mpr c8
      subst c8
      have H1 : (if t250 = true then (some false) else (some (t249 == 0))) = some r := by rw [if_neg (show ¬ (false = true) by decide)] at H; exact H
      clear H
      have H := H1
      clear H1
      by_cases c46 : t250 = true
      · subst c46
        have H1 : (some false) = some r := by rw [if_pos rfl] at H; exact H
        clear H
        have H := H1
        clear H1
        obtain rfl := Option.some.inj H
        go_enter Tryd.func6, Tryd.ntmps6
        go_wp2_with (first | ((with_reducible refine gate_callee (f := 8) rfl ?_); refine goesL_ (some 15) rfl rfl Tryd.func8 (by kernel_rfl) rfl #[] rfl (by (try simp only [List.map_toArray, List.map_cons, List.map_nil]); first | done | rfl | (simp only [List.length_drop, List.length_take]; rfl)) ?_; (with_reducible refine (transposallaw04_Awake.calls k  true _ ?side1 A4.out).mono ?_); (case side1 => exact Glob.below (by repeat (first | (with_reducible first | exact HB.out | apply below_alloc | apply pw_below_drewN | apply below_drew1) | exact HB.out)) HG.out); rintro e w47 ⟨rfl, hb⟩; refine ⟨_, rfl, ?_⟩; have n0_ := Aside0.mk (below_step (by repeat (first | (with_reducible first | exact HB.out | apply below_alloc | apply pw_below_drewN | apply below_drew1) | exact HB.out)) hb); clear HB; have HB := n0_; clear n0_; (try clear hb); (try clear hb2); (try clear hk); (try clear hi)) | ((with_reducible refine gate_callee (f := 13) rfl ?_); refine goesL_ (some 24) rfl rfl Tryd.func13 (by kernel_rfl) rfl #[.int .i64 (wrap64 (a0)), .int .i64 (wrap64 (a1)), .int .i64 (wrap64 (a2))] rfl (by (try simp only [List.map_toArray, List.map_cons, List.map_nil]); first | done | rfl | (simp only [List.length_drop, List.length_take]; rfl)) ?_; (with_reducible refine (day_Of.calls k (wrap64 (a0)) (wrap64 (a1)) (wrap64 (a2)) t249 true _ ?side1 A6.out).mono ?_); (case side1 => exact Glob.below (by repeat (first | (with_reducible first | exact HB.out | apply below_alloc | apply pw_below_drewN | apply below_drew1) | exact HB.out)) HG.out); rintro e w' ⟨rfl, ⟨nd, rfl⟩⟩; refine ⟨_, rfl, ?_⟩) | ((with_reducible refine gate_callee (f := 12) rfl ?_); refine goesL_ (some 33) rfl rfl Tryd.func12 (by kernel_rfl) rfl #[.int .i64 (wrap64 (a0)), .int .i64 (wrap64 (a1)), .int .i64 (wrap64 (a2))] rfl (by (try simp only [List.map_toArray, List.map_cons, List.map_nil]); first | done | rfl | (simp only [List.length_drop, List.length_take]; rfl)) ?_; (with_reducible refine (transposallaw04_Right.calls k (wrap64 (a0)) (wrap64 (a1)) (wrap64 (a2)) false _ A7.out).mono ?_); rintro e w' ⟨rfl, ⟨nd, rfl⟩⟩; refine ⟨_, rfl, ?_⟩))
        go_ret
        exact ⟨by first | rfl | (simp [errW_none, errW_some] <;> rfl) | (simp [*, errW_none, errW_some] <;> rfl), by repeat (first | (with_reducible first | exact HB.out | apply below_alloc | apply pw_below_drewN | apply below_drew1) | exact HB.out)⟩
      · replace c46 := Bool.eq_false_iff.mpr c46
        subst c46
        have H1 : (some (t249 == 0)) = some r := by rw [if_neg (show ¬ (false = true) by decide)] at H; exact H
        clear H
        have H := H1
        clear H1
        obtain rfl := Option.some.inj H
        go_enter Tryd.func6, Tryd.ntmps6
        go_wp2_with (first | ((with_reducible refine gate_callee (f := 8) rfl ?_); refine goesL_ (some 15) rfl rfl Tryd.func8 (by kernel_rfl) rfl #[] rfl (by (try simp only [List.map_toArray, List.map_cons, List.map_nil]); first | done | rfl | (simp only [List.length_drop, List.length_take]; rfl)) ?_; (with_reducible refine (transposallaw04_Awake.calls k  true _ ?side1 A4.out).mono ?_); (case side1 => exact Glob.below (by repeat (first | (with_reducible first | exact HB.out | apply below_alloc | apply pw_below_drewN | apply below_drew1) | exact HB.out)) HG.out); rintro e w48 ⟨rfl, hb⟩; refine ⟨_, rfl, ?_⟩; have n0_ := Aside0.mk (below_step (by repeat (first | (with_reducible first | exact HB.out | apply below_alloc | apply pw_below_drewN | apply below_drew1) | exact HB.out)) hb); clear HB; have HB := n0_; clear n0_; (try clear hb); (try clear hb2); (try clear hk); (try clear hi)) | ((with_reducible refine gate_callee (f := 13) rfl ?_); refine goesL_ (some 24) rfl rfl Tryd.func13 (by kernel_rfl) rfl #[.int .i64 (wrap64 (a0)), .int .i64 (wrap64 (a1)), .int .i64 (wrap64 (a2))] rfl (by (try simp only [List.map_toArray, List.map_cons, List.map_nil]); first | done | rfl | (simp only [List.length_drop, List.length_take]; rfl)) ?_; (with_reducible refine (day_Of.calls k (wrap64 (a0)) (wrap64 (a1)) (wrap64 (a2)) t249 false _ ?side1 A6.out).mono ?_); (case side1 => exact Glob.below (by repeat (first | (with_reducible first | exact HB.out | apply below_alloc | apply pw_below_drewN | apply below_drew1) | exact HB.out)) HG.out); rintro e w' ⟨rfl, ⟨nd, rfl⟩⟩; refine ⟨_, rfl, ?_⟩) | ((with_reducible refine gate_callee (f := 12) rfl ?_); refine goesL_ (some 33) rfl rfl Tryd.func12 (by kernel_rfl) rfl #[.int .i64 (wrap64 (a0)), .int .i64 (wrap64 (a1)), .int .i64 (wrap64 (a2))] rfl (by (try simp only [List.map_toArray, List.map_cons, List.map_nil]); first | done | rfl | (simp only [List.length_drop, List.length_take]; rfl)) ?_; (with_reducible refine (transposallaw04_Right.calls k (wrap64 (a0)) (wrap64 (a1)) (wrap64 (a2)) false _ A7.out).mono ?_); rintro e w' ⟨rfl, ⟨nd, rfl⟩⟩; refine ⟨_, rfl, ?_⟩))
        go_ret
        exact ⟨by first | rfl | (simp [errW_none, errW_some] <;> rfl) | (simp [*, errW_none, errW_some] <;> rfl), by repeat (first | (with_reducible first | exact HB.out | apply below_alloc | apply pw_below_drewN | apply below_drew1) | exact HB.out)⟩
  · replace c5 := Bool.eq_false_iff.mpr c5
    subst c5
    have H1 : (some false) = some r := by rw [if_neg (show ¬ (false = true) by decide)] at H; exact H
    clear H
    have H := H1
    clear H1
    obtain rfl := Option.some.inj H
    go_enter Tryd.func6, Tryd.ntmps6
    go_wp2_with (first | ((with_reducible refine gate_callee (f := 8) rfl ?_); refine goesL_ (some 15) rfl rfl Tryd.func8 (by kernel_rfl) rfl #[] rfl (by (try simp only [List.map_toArray, List.map_cons, List.map_nil]); first | done | rfl | (simp only [List.length_drop, List.length_take]; rfl)) ?_; (with_reducible refine (transposallaw04_Awake.calls k  false _ ?side1 A4.out).mono ?_); (case side1 => exact Glob.below (by repeat (first | (with_reducible first | exact HB.out | apply below_alloc | apply pw_below_drewN | apply below_drew1) | exact HB.out)) HG.out); rintro e w49 ⟨rfl, hb⟩; refine ⟨_, rfl, ?_⟩; have n0_ := Aside0.mk (below_step (by repeat (first | (with_reducible first | exact HB.out | apply below_alloc | apply pw_below_drewN | apply below_drew1) | exact HB.out)) hb); clear HB; have HB := n0_; clear n0_; (try clear hb); (try clear hb2); (try clear hk); (try clear hi)))
    go_ret
    exact ⟨by first | rfl | (simp [errW_none, errW_some] <;> rfl) | (simp [*, errW_none, errW_some] <;> rfl), by repeat (first | (with_reducible first | exact HB.out | apply below_alloc | apply pw_below_drewN | apply below_drew1) | exact HB.out)⟩

/-- THE ONE PURE STATEMENT of transposallaw04_DayOf: yours. -/
def transposallaw04_DayOf.Pure : Prop := ∀ (a0 : Int) (a1 : Int) (a2 : Int), (Lit.int .i16 a0).wf = true → (Lit.int .i16 a1).wf = true → (Lit.int .i16 a2).wf = true → ∃ k, transposallaw04_DayOf.f k a0 a1 a2 = some true

/-! ### transposallaw04_DayParses: function 7 -/
def transposallaw04_DayParses.f (k : Nat) (a0 : ByteArray) : Option (Bool) := (transposallaw04_Awake.f k).bind fun t262 => (if t262 = true then ((day_Parse.f k a0).bind fun bt263 => (if bt263.2 = true then ((day_Day_Text.f k bt263.1).bind fun t265 => (if t265.toList = a0.toList then (some true) else (some false))) else (some (bt263.1 == 0)))) else (some false))
theorem transposallaw04_DayParses.mono : ∀ a0 k, LeO (transposallaw04_DayParses.f k a0) (transposallaw04_DayParses.f (k + 1) a0) := by
  intro a0 k
  unfold transposallaw04_DayParses.f
  repeat' first
      | (with_reducible exact day_Day_Text.mono _ _)
      | (with_reducible exact day_Parse.mono _ _)
      | (with_reducible exact transposallaw04_Awake.mono _)
      | (with_reducible exact LeO.refl _)
      | (with_reducible exact LeO.none _)
      | (with_reducible refine LeO.ite ?_ ?_)
      | (with_reducible refine LeO.bind ?_ (fun _ => ?_))
      | exact day_Day_Text.mono _ _
      | exact day_Parse.mono _ _
      | exact transposallaw04_Awake.mono _
      | exact LeO.none _
      | refine LeO.ite ?_ ?_
      | refine LeO.bind ?_ (fun _ => ?_)
set_option maxHeartbeats 8000000 in
set_option maxRecDepth 100000 in
theorem transposallaw04_DayParses.calls (k : Nat) (a0 : ByteArray) (r : Bool) (w : World) (hG : Glob w) (h : transposallaw04_DayParses.f k a0 = some r) :
    Calls Tryd.prog 7 #[.string a0] w fun e w' => e = .returned (.bool r) ∧ Below w.heap.size w w' := by
  have HG := Aside0.mk hG
  clear hG
  have HB := Aside0.mk (Below.refl w.heap.size w)
  have H : ((transposallaw04_Awake.f k).bind fun t262 => (if t262 = true then ((day_Parse.f k a0).bind fun bt263 => (if bt263.2 = true then ((day_Day_Text.f k bt263.1).bind fun t265 => (if t265.toList = a0.toList then (some true) else (some false))) else (some (bt263.1 == 0)))) else (some false))) = some r := h
  clear h
  replace H := Option.bind_eq_some_iff.mp H
  obtain ⟨t262, A20, H⟩ := H
  replace H : (if t262 = true then ((day_Parse.f k a0).bind fun bt263 => (if bt263.2 = true then ((day_Day_Text.f k bt263.1).bind fun t265 => (if t265.toList = a0.toList then (some true) else (some false))) else (some (bt263.1 == 0)))) else (some false)) = some r := H
  have A2 := Aside0.mk A20
  clear A20
  by_cases c3 : t262 = true
  · subst c3
    have H1 : ((day_Parse.f k a0).bind fun bt263 => (if bt263.2 = true then ((day_Day_Text.f k bt263.1).bind fun t265 => (if t265.toList = a0.toList then (some true) else (some false))) else (some (bt263.1 == 0)))) = some r := by rw [if_pos rfl] at H; exact H
    clear H
    have H := H1
    clear H1
    replace H := Option.bind_eq_some_iff.mp H
    obtain ⟨⟨t263, t264⟩, A40, H⟩ := H
    replace H : (if t264 = true then ((day_Day_Text.f k t263).bind fun t265 => (if t265.toList = a0.toList then (some true) else (some false))) else (some (t263 == 0))) = some r := H
    have A4 := Aside0.mk A40
    clear A40
    by_cases c5 : t264 = true
    · subst c5
      have H1 : ((day_Day_Text.f k t263).bind fun t265 => (if t265.toList = a0.toList then (some true) else (some false))) = some r := by rw [if_pos rfl] at H; exact H
      clear H
      have H := H1
      clear H1
      replace H := Option.bind_eq_some_iff.mp H
      obtain ⟨t265, A60, H⟩ := H
      replace H : (if t265.toList = a0.toList then (some true) else (some false)) = some r := H
      have A6 := Aside0.mk A60
      clear A60
      by_cases c7 : t265.toList = a0.toList
      · rw [if_pos c7] at H
        have c7b0 : (t265.toList == a0.toList) = true := beq_iff_eq.mpr c7
        have c7b1 : (t265.toList != a0.toList) = false := bne_eq_false_iff_eq.mpr c7
        clear c7
        obtain rfl := Option.some.inj H
        go_enter Tryd.func7, Tryd.ntmps7
        go_wp2_with (first | ((with_reducible refine gate_callee (f := 8) rfl ?_); refine goesL_ (some 5) rfl rfl Tryd.func8 (by kernel_rfl) rfl #[] rfl (by (try simp only [List.map_toArray, List.map_cons, List.map_nil]); first | done | rfl | (simp only [List.length_drop, List.length_take]; rfl)) ?_; (with_reducible refine (transposallaw04_Awake.calls k  true _ ?side1 A2.out).mono ?_); (case side1 => exact Glob.below (by repeat (first | (with_reducible first | exact HB.out | apply below_alloc | apply pw_below_drewN | apply below_drew1) | exact HB.out)) HG.out); rintro e w8 ⟨rfl, hb⟩; refine ⟨_, rfl, ?_⟩; have n0_ := Aside0.mk (below_step (by repeat (first | (with_reducible first | exact HB.out | apply below_alloc | apply pw_below_drewN | apply below_drew1) | exact HB.out)) hb); clear HB; have HB := n0_; clear n0_; (try clear hb); (try clear hb2); (try clear hk); (try clear hi)) | ((with_reducible refine gate_callee (f := 16) rfl ?_); refine goesL_ (some 9) rfl rfl Tryd.func16 (by kernel_rfl) rfl #[.string a0] rfl (by (try simp only [List.map_toArray, List.map_cons, List.map_nil]); first | done | rfl | (simp only [List.length_drop, List.length_take]; rfl)) ?_; (with_reducible refine (day_Parse.calls k a0 t263 true _ ?side1 A4.out).mono ?_); (case side1 => exact Glob.below (by repeat (first | (with_reducible first | exact HB.out | apply below_alloc | apply pw_below_drewN | apply below_drew1) | exact HB.out)) HG.out); rintro e w9 ⟨rfl, hb⟩; refine ⟨_, rfl, ?_⟩; have n0_ := Aside0.mk (below_step (by repeat (first | (with_reducible first | exact HB.out | apply below_alloc | apply pw_below_drewN | apply below_drew1) | exact HB.out)) hb); clear HB; have HB := n0_; clear n0_; (try clear hb); (try clear hb2); (try clear hk); (try clear hi)) | (go_at_call 11; (with_reducible refine (day_Day_Text.calls k t263 t265 _ ?side1 A6.out).mono ?_); (case side1 => exact Glob.below (by repeat (first | (with_reducible first | exact HB.out | apply below_alloc | apply pw_below_drewN | apply below_drew1) | exact HB.out)) HG.out); rintro e w10 ⟨rfl, hb⟩; have n0_ := Aside0.mk (below_step (by repeat (first | (with_reducible first | exact HB.out | apply below_alloc | apply pw_below_drewN | apply below_drew1) | exact HB.out)) hb); clear HB; have HB := n0_; clear n0_; (try clear hb); (try clear hb2); (try clear hk); (try clear hi)))
        go_ret
        exact ⟨by first | rfl | (simp [errW_none, errW_some] <;> rfl) | (simp [*, errW_none, errW_some] <;> rfl), by repeat (first | (with_reducible first | exact HB.out | apply below_alloc | apply pw_below_drewN | apply below_drew1) | exact HB.out)⟩
      · rw [if_neg c7] at H
        have c7b0 : (t265.toList == a0.toList) = false := beq_eq_false_iff_ne.mpr c7
        have c7b1 : (t265.toList != a0.toList) = true := bne_iff_ne.mpr c7
        obtain rfl := Option.some.inj H
        go_enter Tryd.func7, Tryd.ntmps7
        go_wp2_with (first | ((with_reducible refine gate_callee (f := 8) rfl ?_); refine goesL_ (some 5) rfl rfl Tryd.func8 (by kernel_rfl) rfl #[] rfl (by (try simp only [List.map_toArray, List.map_cons, List.map_nil]); first | done | rfl | (simp only [List.length_drop, List.length_take]; rfl)) ?_; (with_reducible refine (transposallaw04_Awake.calls k  true _ ?side1 A2.out).mono ?_); (case side1 => exact Glob.below (by repeat (first | (with_reducible first | exact HB.out | apply below_alloc | apply pw_below_drewN | apply below_drew1) | exact HB.out)) HG.out); rintro e w11 ⟨rfl, hb⟩; refine ⟨_, rfl, ?_⟩; have n0_ := Aside0.mk (below_step (by repeat (first | (with_reducible first | exact HB.out | apply below_alloc | apply pw_below_drewN | apply below_drew1) | exact HB.out)) hb); clear HB; have HB := n0_; clear n0_; (try clear hb); (try clear hb2); (try clear hk); (try clear hi)) | ((with_reducible refine gate_callee (f := 16) rfl ?_); refine goesL_ (some 9) rfl rfl Tryd.func16 (by kernel_rfl) rfl #[.string a0] rfl (by (try simp only [List.map_toArray, List.map_cons, List.map_nil]); first | done | rfl | (simp only [List.length_drop, List.length_take]; rfl)) ?_; (with_reducible refine (day_Parse.calls k a0 t263 true _ ?side1 A4.out).mono ?_); (case side1 => exact Glob.below (by repeat (first | (with_reducible first | exact HB.out | apply below_alloc | apply pw_below_drewN | apply below_drew1) | exact HB.out)) HG.out); rintro e w12 ⟨rfl, hb⟩; refine ⟨_, rfl, ?_⟩; have n0_ := Aside0.mk (below_step (by repeat (first | (with_reducible first | exact HB.out | apply below_alloc | apply pw_below_drewN | apply below_drew1) | exact HB.out)) hb); clear HB; have HB := n0_; clear n0_; (try clear hb); (try clear hb2); (try clear hk); (try clear hi)) | (go_at_call 11; (with_reducible refine (day_Day_Text.calls k t263 t265 _ ?side1 A6.out).mono ?_); (case side1 => exact Glob.below (by repeat (first | (with_reducible first | exact HB.out | apply below_alloc | apply pw_below_drewN | apply below_drew1) | exact HB.out)) HG.out); rintro e w13 ⟨rfl, hb⟩; have n0_ := Aside0.mk (below_step (by repeat (first | (with_reducible first | exact HB.out | apply below_alloc | apply pw_below_drewN | apply below_drew1) | exact HB.out)) hb); clear HB; have HB := n0_; clear n0_; (try clear hb); (try clear hb2); (try clear hk); (try clear hi)))
        go_ret
        exact ⟨by first | rfl | (simp [errW_none, errW_some] <;> rfl) | (simp [*, errW_none, errW_some] <;> rfl), by repeat (first | (with_reducible first | exact HB.out | apply below_alloc | apply pw_below_drewN | apply below_drew1) | exact HB.out)⟩
    · replace c5 := Bool.eq_false_iff.mpr c5
      subst c5
      have H1 : (some (t263 == 0)) = some r := by rw [if_neg (show ¬ (false = true) by decide)] at H; exact H
      clear H
      have H := H1
      clear H1
      obtain rfl := Option.some.inj H
      go_enter Tryd.func7, Tryd.ntmps7
      go_wp2_with (first | ((with_reducible refine gate_callee (f := 8) rfl ?_); refine goesL_ (some 5) rfl rfl Tryd.func8 (by kernel_rfl) rfl #[] rfl (by (try simp only [List.map_toArray, List.map_cons, List.map_nil]); first | done | rfl | (simp only [List.length_drop, List.length_take]; rfl)) ?_; (with_reducible refine (transposallaw04_Awake.calls k  true _ ?side1 A2.out).mono ?_); (case side1 => exact Glob.below (by repeat (first | (with_reducible first | exact HB.out | apply below_alloc | apply pw_below_drewN | apply below_drew1) | exact HB.out)) HG.out); rintro e w14 ⟨rfl, hb⟩; refine ⟨_, rfl, ?_⟩; have n0_ := Aside0.mk (below_step (by repeat (first | (with_reducible first | exact HB.out | apply below_alloc | apply pw_below_drewN | apply below_drew1) | exact HB.out)) hb); clear HB; have HB := n0_; clear n0_; (try clear hb); (try clear hb2); (try clear hk); (try clear hi)) | ((with_reducible refine gate_callee (f := 16) rfl ?_); refine goesL_ (some 9) rfl rfl Tryd.func16 (by kernel_rfl) rfl #[.string a0] rfl (by (try simp only [List.map_toArray, List.map_cons, List.map_nil]); first | done | rfl | (simp only [List.length_drop, List.length_take]; rfl)) ?_; (with_reducible refine (day_Parse.calls k a0 t263 false _ ?side1 A4.out).mono ?_); (case side1 => exact Glob.below (by repeat (first | (with_reducible first | exact HB.out | apply below_alloc | apply pw_below_drewN | apply below_drew1) | exact HB.out)) HG.out); rintro e w15 ⟨rfl, hb⟩; refine ⟨_, rfl, ?_⟩; have n0_ := Aside0.mk (below_step (by repeat (first | (with_reducible first | exact HB.out | apply below_alloc | apply pw_below_drewN | apply below_drew1) | exact HB.out)) hb); clear HB; have HB := n0_; clear n0_; (try clear hb); (try clear hb2); (try clear hk); (try clear hi)))
      go_ret
      exact ⟨by first | rfl | (simp [errW_none, errW_some] <;> rfl) | (simp [*, errW_none, errW_some] <;> rfl), by repeat (first | (with_reducible first | exact HB.out | apply below_alloc | apply pw_below_drewN | apply below_drew1) | exact HB.out)⟩
  · replace c3 := Bool.eq_false_iff.mpr c3
    subst c3
    have H1 : (some false) = some r := by rw [if_neg (show ¬ (false = true) by decide)] at H; exact H
    clear H
    have H := H1
    clear H1
    obtain rfl := Option.some.inj H
    go_enter Tryd.func7, Tryd.ntmps7
    go_wp2_with (first | ((with_reducible refine gate_callee (f := 8) rfl ?_); refine goesL_ (some 5) rfl rfl Tryd.func8 (by kernel_rfl) rfl #[] rfl (by (try simp only [List.map_toArray, List.map_cons, List.map_nil]); first | done | rfl | (simp only [List.length_drop, List.length_take]; rfl)) ?_; (with_reducible refine (transposallaw04_Awake.calls k  false _ ?side1 A2.out).mono ?_); (case side1 => exact Glob.below (by repeat (first | (with_reducible first | exact HB.out | apply below_alloc | apply pw_below_drewN | apply below_drew1) | exact HB.out)) HG.out); rintro e w16 ⟨rfl, hb⟩; refine ⟨_, rfl, ?_⟩; have n0_ := Aside0.mk (below_step (by repeat (first | (with_reducible first | exact HB.out | apply below_alloc | apply pw_below_drewN | apply below_drew1) | exact HB.out)) hb); clear HB; have HB := n0_; clear n0_; (try clear hb); (try clear hb2); (try clear hk); (try clear hi)))
    go_ret
    exact ⟨by first | rfl | (simp [errW_none, errW_some] <;> rfl) | (simp [*, errW_none, errW_some] <;> rfl), by repeat (first | (with_reducible first | exact HB.out | apply below_alloc | apply pw_below_drewN | apply below_drew1) | exact HB.out)⟩

/-- THE ONE PURE STATEMENT of transposallaw04_DayParses: yours. -/
def transposallaw04_DayParses.Pure : Prop := ∀ (a0 : ByteArray), a0.size ≤ 140737488351232 → ∃ k, transposallaw04_DayParses.f k a0 = some true

end Go.Proofs.YtnbdcpgaceongaaDoor.XA
