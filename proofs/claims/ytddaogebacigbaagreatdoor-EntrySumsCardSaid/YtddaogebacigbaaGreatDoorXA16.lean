-- Written by a program of this session's (wip/xp) out of the translation; given functions by hand.
import Derived.Test.YtddaogebacigbaaGreatDoorPTurns
import Derived.Test.YtddaogebacigbaaGreatDoorXArr
import Derived.Test.YtddaogebacigbaaGreatDoorXA0
import Derived.Test.YtddaogebacigbaaGreatDoorXA4
import Derived.Test.YtddaogebacigbaaGreatDoorXA10
import Derived.Test.YtddaogebacigbaaGreatDoorXA14
namespace Go.Proofs.YtddaogebacigbaaGreatDoor.XA
open Go.RowKit Go.Proofs.YtddaogebacigbaaGreatDoorW.PrintWords Go.Proofs.YtddaogebacigbaaGreatDoorW.PrintLast Go.Proofs.YtddaogebacigbaaGreatDoorW.PrintMore
attribute [local go_sem] max2_int min2_int max_two min_two max_three min_three max_four min_four   -- for this text's walks alone
set_option linter.unusedVariables false
set_option linter.unusedSimpArgs false

/-! ### transposallaw09_EntrySums: function 3 -/
theorem xqSums_at (A : Option Addr) (n c : Nat) (l : List S28) (W : World) (hn : n = l.length) (h : Kd.C k28 W A n l) (hl : n ≤ 1000000000) (hwf : ∀ x ∈ l, (Lit.int .u16 x.f1).wf = true) : Calls Tryz.prog 15 #[.agg #[.int .i32 0, .slice A n c]] W fun e w' => ∃ (b : Nat) (D : XMap.DM), e = .returned (.map (some b)) ∧ W.heap.size ≤ b ∧ w'.ownsMap Tryz.prog 26 XMap.wideR b n D ∧ XMap.SumsOf wadd D (jsum l) ∧ Below W.heap.size W w' := by
  subst hn
  exact sums.calls 0 A c l W h hl hwf
theorem xqClone_at (a : Option Addr) (n c : Nat) (l : List S28) (W : World) (hn : n = l.length) (h : Kd.C k28 W a l.length l) (hc : n ≤ c) (hl : l.length < 1000000000000) : Calls Tryz.prog 14 #[.slice a n c] W fun e w' => ∃ v0_ : Value, e = .returned (v0_) ∧ Kd.R k28 28 w' W.heap.size (fun _ => True) v0_ l ∧ Below W.heap.size W w' := by
  subst hn
  exact entry_Line_14.calls a c l l W h hc (if_pos hl)
def xqWf (x : S28) : Bool := (Lit.int .u16 x.f1).wf && (Lit.int .i64 x.f3).wf
theorem xqMod3 {n : Int} (h : (Lit.int .u16 n).wf = true) : Int.tmod n 3 = n % 3 ∧ 0 ≤ n % 3 ∧ n % 3 ≤ 2 ∧ (Lit.int .u16 (n % 3)).wf = true := by
  simp [Lit.wf, IntKind.min, IntKind.max, IntKind.bits, IntKind.signed] at h ⊢
  rw [Int.tmod_eq_emod_of_nonneg h.1]
  omega
theorem row_C9 {W : World} {A : Option Addr} {n c b : Nat} {ok : Nat → Prop} {xs : List S28} (h : Kd.R k28 28 W b ok (.slice A n c) xs) (hn : xs.length = n) : Kd.C k28 W A n xs ∧ n ≤ c := by
  subst hn
  exact ⟨(Kd.R_reads' h).2.2, (Kd.R_reads' h).2.1⟩
def transposallaw09_EntrySums.f (k : Nat) (l0 : List S28) (a1 : Bool) : Option Bool :=
  (transposallaw09_Awake.f k).bind fun t => if t = true then (if l0.length > 70 then some true else if l0.all xqWf = true then some true else none) else some false
set_option maxHeartbeats 8000000 in
set_option maxRecDepth 100000 in
theorem transposallaw09_EntrySums.calls (k : Nat) (A0 : Option Addr) (c0 : Nat) (l0 : List S28) (a1 : Bool) (r : Bool) (w : World) (hr0 : Kd.C k28 w A0 l0.length l0) (hc0 : l0.length ≤ c0) (hG : Glob w) (h : transposallaw09_EntrySums.f k l0 a1 = some r) :
    Calls Tryz.prog 3 #[.slice A0 l0.length c0, .bool a1] w fun e w' => e = .returned (.bool r) ∧ Below w.heap.size w w' := by
  have hu1 := Tryz.underlying28
  have hu2 := Tryz.underlying41
  have HG := Aside0.mk hG
  have HR0 := Aside0.mk hr0
  have HC0 := Aside0.mk hc0
  clear hG hr0 hc0
  have HB := Aside0.mk (Below.refl w.heap.size w)
  unfold transposallaw09_EntrySums.f at h
  obtain ⟨t, A10, H⟩ := Option.bind_eq_some_iff.mp h
  have A1 := Aside0.mk A10
  clear h A10
  go_enter Tryz.func3, Tryz.ntmps3
  cases t with
  | false =>
    rw [if_neg (by decide)] at H
    obtain rfl := Option.some.inj H
    clear H
    go_wp2_with (go_at_call 13; (with_reducible refine (transposallaw09_Awake.calls k _ _ ?side1 A1.out).mono ?_); (case side1 => exact Glob.below HB.out HG.out); rintro e w1 ⟨rfl, hb⟩; have n0_ := Aside0.mk (below_step HB.out hb); clear HB hb; have HB := n0_; clear n0_)
    go_ret
    exact ⟨rfl, HB.out⟩
  | true =>
    rw [if_pos rfl] at H
    by_cases h70 : l0.length > 70
    · rw [if_pos h70] at H
      obtain rfl := Option.some.inj H
      clear H
      have d1 : decide ((l0.length : Int) > 70) = true := decide_eq_true (by omega)
      have d2 : decide (70 < l0.length) = true := decide_eq_true (by omega)
      go_wp2_with (go_at_call 13; (with_reducible refine (transposallaw09_Awake.calls k _ _ ?side1 A1.out).mono ?_); (case side1 => exact Glob.below HB.out HG.out); rintro e w1 ⟨rfl, hb⟩; have n0_ := Aside0.mk (below_step HB.out hb); clear HB hb; have HB := n0_; clear n0_)
      go_ret
      exact ⟨rfl, HB.out⟩
    rw [if_neg h70] at H
    have d1 : decide ((l0.length : Int) > 70) = false := decide_eq_false (by omega)
    have d2 : decide (70 < l0.length) = false := decide_eq_false (by omega)
    by_cases hw : l0.all xqWf = true
    case neg => rw [if_neg hw] at H; cases H
    rw [if_pos hw] at H
    obtain rfl := Option.some.inj H
    have HW0 := Aside0.mk (List.all_eq_true.1 hw)
    have HLL := Aside0.mk (show l0.length < 1000000000000 by omega)
    clear H hw
    go_upto_block 0 with (first
      | (go_at_call 13; (with_reducible refine (transposallaw09_Awake.calls k _ _ ?side1 A1.out).mono ?_); (case side1 => exact Glob.below HB.out HG.out); rintro e w1 ⟨rfl, hb⟩; have n0_ := Aside0.mk (below_step HB.out hb); clear HB hb; have HB := n0_; clear n0_)
      | (go_at_call 14; (with_reducible refine (xqClone_at A0 l0.length c0 l0 _ rfl (Kd.C_below HR0.out HB.out) HC0.out HLL.out).mono ?_); rintro e w2 ⟨v0, rfl, ho, hb⟩; obtain ⟨Ao, co, e_⟩ := Kd.R_slice ho; subst e_; have HO := Aside0.mk (Kd.R_lower (base' := w.heap.size) ho (below_size HB.out)); have n0_ := Aside0.mk (below_step HB.out hb); clear HB ho hb; have HB := n0_; clear n0_)
      | fail)
    go_wp2_with fail
    go_loopw [21] (fun v21 wr => ∃ (j : Nat) (xs : List S28), j ≤ l0.length ∧ v21 = .int .i64 j ∧ xs.length = l0.length ∧ Aside0 (∀ x ∈ xs, xqWf x = true) ∧ Aside0 (Kd.R k28 28 wr w.heap.size (fun _ => True) (.slice Ao l0.length co) xs) ∧ Aside0 (Below w.heap.size w wr)) (fun v21 _ => l0.length - (intOf v21).toNat)
    case atStart => exact ⟨0, l0, Nat.zero_le _, rfl, rfl, HW0, HO, HB⟩
    case round =>
      clear HO HB HW0
      obtain ⟨j, xs, hj, rfl, hxl, HW, HO, HB⟩ := hrel
      have HXL := Aside0.mk hxl
      clear hxl
      by_cases hp : j < l0.length
      · have d0 : decide ((j : Int) < (l0.length : Int)) = true := decide_eq_true (by omega)
        cases a1 with
        | false =>
          go_wp2
          go_roundw
          case rel => exact ⟨j + 1, xs, by omega, by go_num, HXL.out, HW, HO, HB⟩
          case measure => simp [intOf]; omega
        | true =>
          have hjx : j < xs.length := by have := HXL.out; omega
          have hwx := HW.out _ (List.getElem_mem hjx)
          unfold xqWf at hwx
          rw [Bool.and_eq_true] at hwx
          have HM3 := Aside0.mk (xqMod3 hwx.1)
          have HI3 := Aside0.mk hwx.2
          clear hwx
          obtain ⟨g, cap, e_, gb, gl, cl, HGc⟩ := Kd.R_form HO.out (by omega)
          injection e_ with e1 e2 e3
          subst e1
          subst e3
          clear e2 HGc
          have GB := Aside0.mk gb
          clear gb gl
          obtain ⟨ce, hcl, hM, hcc, hfr⟩ := Kd.R_elem HO.out z28 (j : Int) (by omega) (by omega)
          obtain rfl := k28_openM hM
          have hrd : xs.getD (j : Int).toNat z28 = xs[j] := by
            rw [Int.toNat_natCast, List.getD_eq_getElem?_getD, List.getElem?_eq_getElem hjx]
            rfl
          rw [hrd] at hcl hcc
          have q0 : (0 : Int) ≤ (j : Int) := by omega
          have q1 : (j : Int) < (l0.length : Int) := by omega
          have hx1 : wr.cell? ⟨g, j * 4 + 1, none⟩ = some (.int .u16 xs[j].f1) := hcc 1 _ rfl
          have hf1 : wr.frozen? ⟨g, j * 4 + 1, none⟩ = false := hfr 1
          have hm3 := HM3.out.1
          have HCL := Aside0.mk hcl
          have HCC := Aside0.mk hcc
          clear hcl hcc hfr hM hrd hp
          go_wp2
          go_roundw
          case rel =>
            have hs := Kd.R_seg HO.out (j : Int) q0 q1 (seg := [.int .u16 (xs[j].f1 % 3)]) (j := 1) HCL.out HCC.out (show 2 ≤ 4 by decide) (x' := ⟨xs[j].f0, xs[j].f1 % 3, xs[j].f2, xs[j].f3⟩) (k28_mkM _ _ _ ⟨xs[j].f0, xs[j].f1 % 3, xs[j].f2, xs[j].f3⟩) (fun _ hk => hk)
            refine ⟨j + 1, xs.set (j : Int).toNat ⟨xs[j].f0, xs[j].f1 % 3, xs[j].f2, xs[j].f3⟩, by omega, by go_num, by rw [List.length_set]; exact HXL.out, ⟨fun x hx => ?_⟩, ⟨hs.1⟩, ⟨below_set HB.out GB.out⟩⟩
            rcases List.mem_or_eq_of_mem_set hx with h1 | rfl
            · exact HW.out x h1
            · unfold xqWf
              rw [HM3.out.2.2.2, HI3.out]
              rfl
          case measure => simp [intOf]; omega
      · have d0 : decide ((j : Int) < (l0.length : Int)) = false := decide_eq_false (by omega)
        obtain rfl : j = l0.length := by omega
        have hl0 := HXL.out
        have HC := Aside0.mk (row_C9 HO.out hl0)
        have HW1 := Aside0.mk (show ∀ x ∈ xs, (Lit.int .u16 x.f1).wf = true from fun x hx => (Bool.and_eq_true _ _ ▸ HW.out x hx).1)
        have HW2 := Aside0.mk (show ∀ x ∈ xs, (Lit.int .i64 x.f3).wf = true from fun x hx => (Bool.and_eq_true _ _ ▸ HW.out x hx).2)
        have HL9 := Aside0.mk (show l0.length ≤ 1000000000 by omega)
        have HXS := Aside0.mk hl0.symm
        clear hl0 HO HW HXL
        go_wp2_with (first
          | (go_at_call 15; (with_reducible refine (xqSums_at Ao l0.length co xs _ HXS.out HC.out.1 HL9.out HW1.out).mono ?_); rintro e w5 ⟨b1, D1, rfl, _, hm1, hs1, hbl⟩; have HM1 := Aside0.mk hm1; have HS1 := Aside0.mk hs1; have n0_ := Aside0.mk (below_step HB.out hbl); have n1_ := Aside0.mk (Kd.C_below HC.out.1 hbl); clear HB hm1 hs1 hbl; have HB := n0_; have HC1 := n1_; clear n0_ n1_)
          | (go_at_call 16; (with_reducible refine (xqLsums_at Ao l0.length co xs _ HXS.out HC1.out HL9.out HW1.out HW2.out).mono ?_); rintro e w6 ⟨b2, D2, rfl, _, hm2, hs2, hbl⟩; have HM2 := Aside0.mk hm2; have HS2 := Aside0.mk hs2; have n0_ := Aside0.mk (below_step HB.out hbl); have n1_ := Aside0.mk (XMap.own_below HM1.out hbl); clear HB HM1 hm2 hs2 hbl; have HB := n0_; have HM1 := n1_; clear n0_ n1_)
          | (at_range; refine wpList_range_own _ rfl _ 34 rfl 26 36 lawU16 Tryz.underlying34 XArr.arrR b2 l0.length D2 rfl HM2.out ?_; intro w3 hrg0 hg0 hs0; have HR2 := Aside0.mk hrg0; have HB3 := Aside0.mk (Below.grown (Below.refl w6.heap.size w6) hg0 (Nat.le_refl _) (fun j_ hj_ => by cases hj_)); clear hrg0 hg0 hs0)
          | go_in)
        go_frame
        obtain ⟨rr, hrr⟩ : ∃ g, g = w6.heap.size := ⟨_, rfl⟩
        have HRR := Aside0.mk (show w6.heap.size ≤ rr by omega)
        have HLT := Aside0.mk (show b1 < rr by rw [hrr]; exact HM1.out.lt)
        rw [← hrr] at HR2 ⊢
        clear hrr
        have n1_ := Aside0.mk (XMap.own_below HM1.out HB3.out)
        go_loopw [41] (fun _ wr => ∃ (left : Lit → Bool) (cnt : Nat), Aside0 (wr.ranges Tryz.prog 26 XArr.arrR b2 rr l0.length D2 left cnt) ∧ Aside0 (wr.ownsMap Tryz.prog 26 XMap.wideR b1 l0.length D1) ∧ Aside0 (Below w6.heap.size w6 wr)) (fun _ wr => wr.rangeLeft b2 rr)
        case atStart => exact ⟨_, _, HR2, n1_, HB3⟩
        case round =>
          clear HM1 HM2 HR2 HB3 n1_
          obtain ⟨left, cnt, HR2, HM1, HB3⟩ := hrel
          go_wp2_with (first
            | (at_next; refine XArr.wpList_next_arr rfl _ rfl 26 lawU16 Tryz.underlying26 b2 rr l0.length D2 left cnt rfl HR2.out ?_ ?_)
            | go_in)
          · intro hl0
            clear hl0
            have e2 : Maps.size D2 = Maps.size D1 := PWide.size_same HS2.out HS1.out (HR2.out.owns.entries lawU16) (HM1.out.entries lawU16) (fun _ => rfl)
            have hle1 := HM1.out.len Tryz.underlying29 3
            have hle2 := HR2.out.owns.len Tryz.underlying34 3
            rw [e2] at hle2
            clear e2
            generalize Maps.size D1 = mm at hle1 hle2
            go_wp2
            go_ret
            exact ⟨by simp, below_step HB.out HB3.out⟩
          · intro x q1 q2 w9 cnt1 hwx hat hin hrg hlt hgr hen
            obtain ⟨c, hc⟩ : ∃ c, c = (q1, q2) := ⟨_, rfl⟩
            rw [← hc] at hat hin hen ⊢
            unfold XArr.arrV at hen ⊢
            clear hc
            have HSU := Aside0.mk (show XMap.sumOf wadd (jsum xs) x = c from XMap.wideD_inj ((HS2.out.look x).symm.trans (hat _)))
            have HLE := Aside0.mk (show cnt1 < wr.rangeLeft b2 rr by rw [HR2.out.left_eq]; exact hlt)
            have HIN := Aside0.mk hin
            have hl4 : (Tryz.prog.info? 36).map (·.size) = some 128 := by kernel_rfl
            have hs4 : (XBits.arr (XBits.bitsN (XArr.nW c))).size = 128 := by rw [XBits.arr_size]; exact XBits.row_len _
            have hz4 : Tryz.zeroCells36.size = 128 := by kernel_rfl
            have BN := Aside0.mk (blk_new w9 (Obj.cells Tryz.zeroCells36 36))
            have HST := Aside0.mk (XMem.storeAt_run (P := Tryz.prog) (w9.alloc (Obj.cells Tryz.zeroCells36 36)) w9.heap.size 0 Tryz.zeroCells36 36 BN.out 36 (XBits.arr (XBits.bitsN (XArr.nW c))) (by rw [hl4, hs4]) (by rw [hs4, hz4]; decide) (XBits.arr_one _))
            rw [XBits.row_whole (by rw [hs4, hz4])] at HST
            have HI := Aside0.mk (show (Tryz.prog.info? 36).map (·.size) = some (XBits.arr (XBits.bitsN (XArr.nW c))).size by rw [hl4, hs4])
            have BN2 := Aside0.mk (XBits.setRow_at (w9.alloc (Obj.cells Tryz.zeroCells36 36)) w9.heap.size (XBits.arr (XBits.bitsN (XArr.nW c))) BN.out)
            have hgs := XMem.setRow_grown (w9.alloc (Obj.cells Tryz.zeroCells36 36)) w9.heap.size (XBits.arr (XBits.bitsN (XArr.nW c)))
            have hb9 := Below.grown HB3.out hgr (below_size HB3.out) (fun j_ hj_ => by cases hj_; exact HRR.out)
            have HB1 := Aside0.mk (Below.grown (below_alloc hb9 (Obj.cells Tryz.zeroCells36 36)) hgs (below_size (below_alloc hb9 _)) (fun j_ hj_ => by cases hj_; exact below_size hb9))
            have HRn := Aside0.mk ((hrg.alloc (Obj.cells Tryz.zeroCells36 36)).kept hgs (by rw [Ne, Option.some.injEq]; have := hrg.owns.lt; omega) (by rw [Ne, Option.some.injEq]; have := hrg.lt; omega))
            have HMn := Aside0.mk (((HM1.out.kept hgr (by rw [Ne, Option.some.injEq]; have := HLT.out; omega)).alloc (Obj.cells Tryz.zeroCells36 36)).kept hgs (by rw [Ne, Option.some.injEq]; have h1 := HLT.out; have h2 := hrg.lt; omega))
            have HWX := Aside0.mk hwx
            clear hwx hat hin hrg hlt hgr hl4 hs4 hz4 HR2 HM1 HB3 BN hgs hb9
            have HAT := Aside0.mk (show D1.atKey (XMap.key x) (XMap.wideD (0, 0)) = XMap.wideD c by rw [HS1.out.look, HSU.out])
            have HRA := Aside0.mk (show ∀ wx : World, wx.ownsMap Tryz.prog 26 XMap.wideR b1 l0.length D1 → (Instr.lookup 29 (.map (some b1)) (.int .u16 x) false).run Tryz.prog wx = .ok (.agg #[.int .i64 c.1, .int .u64 c.2]) wx from fun wx h => XMap.run_lookup h lawU16 Tryz.underlying29 (zeroWide _) (Go.Maps.keyOf_int_mk Tryz.underlying26 HWX.out) HAT.out)
            go_upto_region 17 with (first
              | (refine XMem.wpList_store rfl (ty := 36) (x := .tmp 9) (y := .tmp 45) rfl rfl rfl rfl HST.out ?_)
              | (refine wpList_load_row rfl 36 (.tmp 9) rfl w9.heap.size rfl _ _ _ _ BN2.out Tryz.underlying36 rfl HI.out ?_)
              | (go_at_call 17; refine (xqNum_at c HIN.out _).mono ?_; rintro e w11 ⟨rfl, hb⟩; have n0_ := Aside0.mk (below_step HB1.out hb); have n1_ := Aside0.mk (XMap.ranges_below HRn.out hb); have n2_ := Aside0.mk (XMap.own_below HMn.out hb); clear HB1 HRn HMn hb; have HB1 := n0_; have HRn := n1_; have HMn := n2_; clear n0_ n1_ n2_)
              | go_in)
            obtain ⟨p1, p2⟩ := c
            have hr1 := HRA.out _ HMn.out
            dsimp only at hr1
            have hfa : ∀ wx : World, (Instr.field 41 (.agg #[.int .i64 p1, .int .u64 p2]) 0).run Tryz.prog wx = .ok (.int .i64 p1) wx := fun _ => by kernel_rfl
            have hfb : ∀ wx : World, (Instr.field 41 (.agg #[.int .i64 p1, .int .u64 p2]) 1).run Tryz.prog wx = .ok (.int .u64 p2) wx := fun _ => by kernel_rfl
            go_wp2
            refine ⟨⟨_, cnt1, HRn, HMn, HB1⟩, by rw [HRn.out.left_eq]; exact HLE.out⟩

/-- THE ONE PURE STATEMENT of transposallaw09_EntrySums: yours. -/
def transposallaw09_EntrySums.Pure : Prop := ∀ (l0 : List (S28)) (a1 : Bool), l0.length ≤ maxLen → (∀ y, y ∈ l0 → ((Lit.int .u32 y.f0).wf = true ∧ (Lit.int .u16 y.f1).wf = true ∧ (Lit.int .u16 y.f2).wf = true ∧ (Lit.int .i64 y.f3).wf = true)) → ∃ k, transposallaw09_EntrySums.f k l0 a1 = some true

end Go.Proofs.YtddaogebacigbaaGreatDoor.XA
