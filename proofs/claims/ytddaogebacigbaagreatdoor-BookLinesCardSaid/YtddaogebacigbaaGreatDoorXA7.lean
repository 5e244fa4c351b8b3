-- Written by a program of this session's (wip/xp) out of the translation; given functions by hand.
import Derived.Test.YtddaogebacigbaaGreatDoorXA0
import Derived.Test.YtddaogebacigbaaGreatDoorXA2
import Derived.Test.YtddaogebacigbaaGreatDoorXA5
import Derived.Test.YtddaogebacigbaaGreatDoorXA6
namespace Go.Proofs.YtddaogebacigbaaGreatDoor.XA
open Go.RowKit Go.Proofs.YtddaogebacigbaaGreatDoorW.PrintWords Go.Proofs.YtddaogebacigbaaGreatDoorW.PrintLast Go.Proofs.YtddaogebacigbaaGreatDoorW.PrintMore
attribute [local go_sem] max2_int min2_int max_two min_two max_three min_three max_four min_four   -- for this text's walks alone
set_option linter.unusedVariables false
set_option linter.unusedSimpArgs false

/-! ### transposallaw10_BookLines: function 7 -/
def transposallaw10_BookLines.f (k : Nat) (l0_0 : List (S139)) (l0_1 : List Int) (a0_2 : Int) (l0_3 : List Int) (l0_4 : List (S103)) (a1_0 a1_1 a1_2 a1_3 a2_0 a2_1 a2_2 a2_3 : Int) (a3 : Bool) : Option Bool :=
  (transposallaw10_Awake.f k).bind fun t => if t = true then (transposallaw10_B_Light.f k l0_0 l0_1 a0_2 l0_3 l0_4).bind fun u => if u = true then (transposallaw10_Frame.f k l0_0 l0_1 a0_2 l0_3 l0_4).bind fun F => (if a3 = true then transposallaw10_L_line.f a2_0 a2_1 a2_2 a2_3 F.1 F.2.1 F.2.2.1 F.2.2.2 else some (a1_0, a1_1, a1_2, a1_3)).bind fun L => (transposallaw10_has.f F.1 F.2.1 F.2.2.1 F.2.2.2 L.1 L.2.1 L.2.2.1 L.2.2.2).bind fun h => (book_Frame_Line.f k F.1 F.2.1 F.2.2.1 F.2.2.2 L.1 L.2.1 L.2.2.1 L.2.2.2).bind fun e => some (e == if h = true then 0 else 8) else some true else some false
set_option maxHeartbeats 8000000 in
set_option maxRecDepth 100000 in
theorem transposallaw10_BookLines.calls (k : Nat) (A0_0 : Option Addr) (c0_0 : Nat) (l0_0 : List (S139)) (A0_1 : Option Addr) (c0_1 : Nat) (l0_1 : List Int) (a0_2 : Int) (A0_3 : Option Addr) (c0_3 : Nat) (l0_3 : List Int) (A0_4 : Option Addr) (c0_4 : Nat) (l0_4 : List (S103)) (a1_0 a1_1 a1_2 a1_3 a2_0 a2_1 a2_2 a2_3 : Int) (a3 : Bool) (r : Bool) (w : World) (hr0_0 : Kd.C k139 w A0_0 l0_0.length l0_0) (hc0_0 : l0_0.length ≤ c0_0) (hr0_1 : Kd.C (Kd.int .u16) w A0_1 l0_1.length l0_1) (hc0_1 : l0_1.length ≤ c0_1) (hr0_3 : Kd.C (Kd.int .u8) w A0_3 l0_3.length l0_3) (hc0_3 : l0_3.length ≤ c0_3) (hr0_4 : Kd.C k103 w A0_4 l0_4.length l0_4) (hc0_4 : l0_4.length ≤ c0_4) (hG : Glob w) (h : transposallaw10_BookLines.f k l0_0 l0_1 a0_2 l0_3 l0_4 a1_0 a1_1 a1_2 a1_3 a2_0 a2_1 a2_2 a2_3 a3 = some r) :
    Calls Tryz.prog 7 #[.agg #[.slice A0_0 l0_0.length c0_0, .slice A0_1 l0_1.length c0_1, .int .i16 a0_2, .slice A0_3 l0_3.length c0_3, .slice A0_4 l0_4.length c0_4], .agg #[.int .u32 a1_0, .int .u16 a1_1, .int .u16 a1_2, .int .i64 a1_3], .agg #[.int .u8 a2_0, .int .u8 a2_1, .int .u8 a2_2, .int .i64 a2_3], .bool a3] w fun e w' => e = .returned (.bool r) ∧ Below w.heap.size w w' := by
  have hu1 := Tryz.underlying57
  have hu2 := Tryz.underlying67
  have hu3 := Tryz.underlying28
  have hu4 := Tryz.underlying59
  have R0 := Aside0.mk hr0_0
  have L0 := Aside0.mk hc0_0
  have R1 := Aside0.mk hr0_1
  have L1 := Aside0.mk hc0_1
  have R3 := Aside0.mk hr0_3
  have L3 := Aside0.mk hc0_3
  have R4 := Aside0.mk hr0_4
  have L4 := Aside0.mk hc0_4
  have HG := Aside0.mk hG
  clear hr0_0 hc0_0 hr0_1 hc0_1 hr0_3 hc0_3 hr0_4 hc0_4 hG
  unfold transposallaw10_BookLines.f at h
  obtain ⟨t, M1, h⟩ := Option.bind_eq_some_iff.mp h
  have M1 := Aside0.mk M1
  have H := Aside0.mk h
  rename_i M1_
  clear h M1_
  go_enter Tryz.func7, Tryz.ntmps7
  go_upto_region 1 with fail
  obtain ⟨W, hW, B1, B2, B3, HB, HS⟩ := xq3 w (Obj.cells #[.slice A0_0 l0_0.length c0_0, .slice A0_1 l0_1.length c0_1, .int .i16 a0_2, .slice A0_3 l0_3.length c0_3, .slice A0_4 l0_4.length c0_4] 57) (Obj.cells #[.int .u32 a1_0, .int .u16 a1_1, .int .u16 a1_2, .int .i64 a1_3] 28) (Obj.cells #[.int .u8 a2_0, .int .u8 a2_1, .int .u8 a2_2, .int .i64 a2_3] 59)
  rw [← hW]
  clear hW
  have HBB := Aside0.mk HB
  have HB1 := Aside0.mk B1
  have HB2 := Aside0.mk B2
  have HB3 := Aside0.mk B3
  have HSS := Aside0.mk HS
  clear B1 B2 B3 HB HS
  go_upto_if 12 with (first
    | (go_at_call 22; (with_reducible refine (transposallaw10_Awake.calls k t _ ?sG M1.out).mono ?_); (case sG => exact Glob.below HBB.out HG.out); rintro e w1 ⟨rfl, hb⟩; have P1 := Aside0.mk (blk_below HB1.out hb); have P2 := Aside0.mk (blk_below HB2.out hb); have P3 := Aside0.mk (blk_below HB3.out hb); have HBw := Aside0.mk (below_step HBB.out hb); clear hb)
    | fail)
  cases t with
  | false =>
    obtain rfl := Option.some.inj ((if_neg (by decide)).symm.trans H.out)
    go_wp2_with fail
    go_ret
    exact ⟨rfl, HBw.out⟩
  | true =>
    obtain ⟨u, N2, h⟩ := Option.bind_eq_some_iff.mp ((if_pos rfl).symm.trans H.out)
    have M2 := Aside0.mk N2
    have H2 := Aside0.mk h
    clear N2 h H
    obtain ⟨y0, y1, y2, y3, y4, _, _, _, _, _⟩ := cl5 P1.out
    go_upto_if 15 with (first
      | (go_at_call 23; (with_reducible refine (transposallaw10_B_Light.calls k A0_0 c0_0 l0_0 A0_1 c0_1 l0_1 a0_2 A0_3 c0_3 l0_3 A0_4 c0_4 l0_4 u _ ?s0 L0.out ?s1 L1.out ?s3 L3.out ?s4 L4.out M2.out).mono ?_); (case s0 => exact Kd.C_below R0.out HBw.out); (case s1 => exact Kd.C_below R1.out HBw.out); (case s3 => exact Kd.C_below R3.out HBw.out); (case s4 => exact Kd.C_below R4.out HBw.out); rintro e w2 ⟨rfl, hb⟩; have Q1 := Aside0.mk (blk_below P1.out hb); have Q2 := Aside0.mk (blk_below P2.out hb); have Q3 := Aside0.mk (blk_below P3.out hb); have HBx := Aside0.mk (below_step HBw.out hb); clear hb)
      | fail)
    clear y0 y1 y2 y3 y4 P1 P2 P3 HB1 HB2 HB3
    cases u with
    | false =>
      obtain rfl := Option.some.inj ((if_neg (by decide)).symm.trans H2.out)
      go_wp2_with fail
      go_ret
      exact ⟨rfl, HBx.out⟩
    | true =>
      obtain ⟨⟨ch, un, st, en⟩, N3, h⟩ := Option.bind_eq_some_iff.mp ((if_pos rfl).symm.trans H2.out)
      have M3 := Aside0.mk N3
      have H3 := Aside0.mk h
      clear N3 h H2
      obtain ⟨y0, y1, y2, y3, y4, _, _, _, _, _⟩ := cl5 Q1.out
      go_upto_region 6 with (first
        | (go_at_call 24; (with_reducible refine (transposallaw10_Frame.calls k A0_0 c0_0 l0_0 A0_1 c0_1 l0_1 a0_2 A0_3 c0_3 l0_3 A0_4 c0_4 l0_4 ch un st en _ ?s0 L0.out ?s1 L1.out ?s3 L3.out ?s4 L4.out M3.out).mono ?_); (case s0 => exact Kd.C_below R0.out HBx.out); (case s1 => exact Kd.C_below R1.out HBx.out); (case s3 => exact Kd.C_below R3.out HBx.out); (case s4 => exact Kd.C_below R4.out HBx.out); rintro e w3 ⟨v6, v9, v14, rfl, o6, o9, o14, hb⟩; obtain ⟨A6, c6, rfl⟩ := Kd.R_slice o6; obtain ⟨A9, c9, rfl⟩ := Kd.R_slice o9; obtain ⟨A14, c14, rfl⟩ := Kd.R_slice o14; have O6 := Aside0.mk o6; have O9 := Aside0.mk o9; have O14 := Aside0.mk o14; have S2_ := Aside0.mk (blk_below Q2.out hb); have S2 := S2_; have S3 := Aside0.mk (blk_below Q3.out hb); have HBy := Aside0.mk (below_step HBx.out hb); clear hb o6 o9 o14)
        | fail)
      clear y0 y1 y2 y3 y4 Q1 Q2 Q3 M1 M2 M3 R0 L0 R1 L1 R3 L3 R4 L4
      obtain ⟨⟨q0, q1, q2, q3⟩, N4, h⟩ := Option.bind_eq_some_iff.mp H3.out
      have M4 := Aside0.mk N4
      obtain ⟨hh, N5, h⟩ := Option.bind_eq_some_iff.mp h
      have M5 := Aside0.mk N5
      obtain ⟨e, N6, h⟩ := Option.bind_eq_some_iff.mp h
      have M6 := Aside0.mk N6
      have H6 := Aside0.mk (Option.some.inj h)
      clear N4 N5 N6 h H3
      have BK := Aside0.mk (blk_new w3 (Obj.cells #[.slice A6 ch.length c6, .slice A9 un.length c9, .slice A14 st.length c14, .int .i32 en] 67))
      have S2 := Aside0.mk (blk_alloc S2.out (Obj.cells #[.slice A6 ch.length c6, .slice A9 un.length c9, .slice A14 st.length c14, .int .i32 en] 67))
      have S3 := Aside0.mk (blk_alloc S3.out (Obj.cells #[.slice A6 ch.length c6, .slice A9 un.length c9, .slice A14 st.length c14, .int .i32 en] 67))
      have C6 := Aside0.mk (Kd.R_alloc O6.out (Obj.cells #[.slice A6 ch.length c6, .slice A9 un.length c9, .slice A14 st.length c14, .int .i32 en] 67))
      have C9 := Aside0.mk (Kd.R_alloc O9.out (Obj.cells #[.slice A6 ch.length c6, .slice A9 un.length c9, .slice A14 st.length c14, .int .i32 en] 67))
      have C14 := Aside0.mk (Kd.R_alloc O14.out (Obj.cells #[.slice A6 ch.length c6, .slice A9 un.length c9, .slice A14 st.length c14, .int .i32 en] 67))
      have HBz := Aside0.mk (below_alloc HBy.out (Obj.cells #[.slice A6 ch.length c6, .slice A9 un.length c9, .slice A14 st.length c14, .int .i32 en] 67))
      have HNE := Aside0.mk (show w3.heap.size ≠ w.heap.size + 1 by have := (blk_lt (show w3.heap[w.heap.size + 1]? = some (Obj.cells #[.int .u32 a1_0, .int .u16 a1_1, .int .u16 a1_2, .int .i64 a1_3] 28) from S2_.out)); omega)
      obtain ⟨g, hg⟩ : ∃ g, g = w3.heap.size := ⟨_, rfl⟩
      rw [← hg] at BK HNE ⊢
      clear O6 O9 O14 HBy hg
      generalize w3.alloc (Obj.cells #[.slice A6 ch.length c6, .slice A9 un.length c9, .slice A14 st.length c14, .int .i32 en] 67) = V at BK S2 S3 C6 C9 C14 HBz ⊢
      go_upto_if 18 with fail
      have L6 := Aside0.mk (Kd.R_reads' C6.out).2.1
      have L9 := Aside0.mk (Kd.R_reads' C9.out).2.1
      have L14 := Aside0.mk (Kd.R_reads' C14.out).2.1
      have E6 := Aside0.mk (Kd.R_reads' C6.out).2.2
      have E9 := Aside0.mk (Kd.R_reads' C9.out).2.2
      have E14 := Aside0.mk (Kd.R_reads' C14.out).2.2
      go_cut [] (fun wx => Aside0 (wx.heap[g]? = some (Obj.cells #[.slice A6 ch.length c6, .slice A9 un.length c9, .slice A14 st.length c14, .int .i32 en] 67)) ∧ Aside0 (wx.heap[w.heap.size + 1]? = some (Obj.cells #[.int .u32 q0, .int .u16 q1, .int .u16 q2, .int .i64 q3] 28)) ∧ Aside0 (Kd.C k109 wx A6 ch.length ch) ∧ Aside0 (Kd.C (Kd.int .u16) wx A9 un.length un) ∧ Aside0 (Kd.C (Kd.int .i32) wx A14 st.length st) ∧ Aside0 (Below w.heap.size w wx))
      case first =>
        cases a3 with
        | false =>
          obtain ⟨rfl, rfl, rfl, rfl⟩ : a1_0 = q0 ∧ a1_1 = q1 ∧ a1_2 = q2 ∧ a1_3 = q3 := by
            have := Option.some.inj ((if_neg (by decide)).symm.trans M4.out)
            simpa only [Prod.mk.injEq] using this
          go_wp2_with fail
          go_meet
          exact ⟨BK, S2, E6, E9, E14, HBz⟩
        | true =>
          have M7 := Aside0.mk ((if_pos rfl).symm.trans M4.out)
          clear M4
          obtain ⟨z0, z1, z2, z3, _, _, _, _⟩ := cl4 S3.out
          obtain ⟨x0, x1, x2, x3, _, _, _, _⟩ := cl4 BK.out
          go_wp2_with (first
            | (go_at_call 25; (with_reducible refine (transposallaw10_L_line.calls a2_0 a2_1 a2_2 a2_3 A6 c6 ch A9 c9 un A14 c14 st en q0 q1 q2 q3 _ E6.out L6.out E9.out L9.out E14.out L14.out M7.out).mono ?_); rintro e4 w5 ⟨rfl, hb⟩; have T2 := Aside0.mk (blk_below S2.out hb); have TK := Aside0.mk (blk_below BK.out hb); have F6 := Aside0.mk (Kd.R_below C6.out hb); have F9 := Aside0.mk (Kd.R_below C9.out hb); have F14 := Aside0.mk (Kd.R_below C14.out hb); have HBu := Aside0.mk (below_step HBz.out hb); clear hb z0 z1 z2 z3 x0 x1 x2 x3; obtain ⟨z0, z1, z2, z3, g0, g1, g2, g3⟩ := cl4 T2.out)
            | fail)
          go_meet
          exact ⟨⟨blk_far (blk_far (blk_far (blk_far TK.out HNE.out _) HNE.out _) HNE.out _) HNE.out _⟩, ⟨blk_set (blk_set (blk_set (blk_set T2.out 0 _) 1 _) 2 _) 3 _⟩, ⟨(Kd.R_reads' (xqR4 F6.out T2.out (by decide) _ _ _ _)).2.2⟩, ⟨(Kd.R_reads' (xqR4 F9.out T2.out (by decide) _ _ _ _)).2.2⟩, ⟨(Kd.R_reads' (xqR4 F14.out T2.out (by decide) _ _ _ _)).2.2⟩, ⟨below_set (below_set (below_set (below_set HBu.out (by omega)) (by omega)) (by omega)) (by omega)⟩⟩
      case rest =>
        clear BK S2 S3 C6 C9 C14 HBz E6 E9 E14 M4
        obtain ⟨BK, S2, E6, E9, E14, HBz⟩ := hcut
        obtain ⟨z0, z1, z2, z3, _, _, _, _⟩ := cl4 S2.out
        obtain ⟨x0, x1, x2, x3, _, _, _, _⟩ := cl4 BK.out
        go_upto_if 25 with (first
          | (go_at_call 26; (with_reducible refine (transposallaw10_has.calls A6 c6 ch A9 c9 un A14 c14 st en q0 q1 q2 q3 hh _ E6.out L6.out E9.out L9.out E14.out L14.out M5.out).mono ?_); rintro e4 w5 ⟨rfl, hb⟩; have T2 := Aside0.mk (blk_below S2.out hb); have TK := Aside0.mk (blk_below BK.out hb); have F6 := Aside0.mk (Kd.C_below E6.out hb); have F9 := Aside0.mk (Kd.C_below E9.out hb); have F14 := Aside0.mk (Kd.C_below E14.out hb); have HBu := Aside0.mk (below_step HBz.out hb); clear hb)
          | fail)
        clear z0 z1 z2 z3 x0 x1 x2 x3
        obtain ⟨z0, z1, z2, z3, _, _, _, _⟩ := cl4 T2.out
        obtain ⟨x0, x1, x2, x3, _, _, _, _⟩ := cl4 TK.out
        cases hh
        all_goals go_wp2_with (first
          | (go_at_call 27; (with_reducible refine (book_Frame_Line.calls k A6 c6 ch A9 c9 un A14 c14 st en q0 q1 q2 q3 e _ F6.out L6.out F9.out L9.out F14.out L14.out M6.out).mono ?_); rintro e4 w6 ⟨rfl, hb⟩; have HBv := Aside0.mk (below_step HBu.out hb); clear hb)
          | fail)
        all_goals go_ret
        all_goals exact ⟨congrArg (fun z => Ending.returned (Value.bool z)) H6.out, HBv.out⟩

/-- THE ONE PURE STATEMENT of transposallaw10_BookLines: yours. -/
def transposallaw10_BookLines.Pure : Prop := ∀ (l0_0 : List (S139)) (l0_1 : List Int) (a0_2 : Int) (l0_3 : List Int) (l0_4 : List (S103)) (a1_0 : Int) (a1_1 : Int) (a1_2 : Int) (a1_3 : Int) (a2_0 : Int) (a2_1 : Int) (a2_2 : Int) (a2_3 : Int) (a3 : Bool), (l0_0.length ≤ maxLen ∧ ∀ y0, y0 ∈ l0_0 → ((Lit.int .u8 y0.f0).wf = true ∧ (Lit.int .u8 y0.f1).wf = true ∧ (Lit.int .u8 y0.f2).wf = true ∧ (Lit.int .u8 y0.f3).wf = true)) → (l0_1.length ≤ maxLen ∧ ∀ y0, y0 ∈ l0_1 → (Lit.int .u16 y0).wf = true) → (Lit.int .i16 a0_2).wf = true → (l0_3.length ≤ maxLen ∧ ∀ y0, y0 ∈ l0_3 → (Lit.int .u8 y0).wf = true) → (l0_4.length ≤ maxLen ∧ ∀ y0, y0 ∈ l0_4 → ((Lit.int .u8 y0.f0).wf = true ∧ (y0.f1.length ≤ maxLen ∧ ∀ y1, y1 ∈ y0.f1 → ((Lit.int .u8 y1.f0).wf = true ∧ (Lit.int .u8 y1.f1).wf = true ∧ (Lit.int .u8 y1.f2).wf = true ∧ (Lit.int .i64 y1.f3).wf = true)))) → (Lit.int .u32 a1_0).wf = true → (Lit.int .u16 a1_1).wf = true → (Lit.int .u16 a1_2).wf = true → (Lit.int .i64 a1_3).wf = true → (Lit.int .u8 a2_0).wf = true → (Lit.int .u8 a2_1).wf = true → (Lit.int .u8 a2_2).wf = true → (Lit.int .i64 a2_3).wf = true → ∃ k, transposallaw10_BookLines.f k l0_0 l0_1 a0_2 l0_3 l0_4 a1_0 a1_1 a1_2 a1_3 a2_0 a2_1 a2_2 a2_3 a3 = some true

end Go.Proofs.YtddaogebacigbaaGreatDoor.XA
