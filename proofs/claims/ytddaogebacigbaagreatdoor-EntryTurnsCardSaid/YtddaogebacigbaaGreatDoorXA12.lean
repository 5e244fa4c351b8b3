-- Written by a program of this session's (wip/xp) out of the translation; given functions by hand.
import Derived.Test.YtddaogebacigbaaGreatDoorPTurns
import Derived.Test.YtddaogebacigbaaGreatDoorXA0
import Derived.Test.YtddaogebacigbaaGreatDoorXA4
import Derived.Test.YtddaogebacigbaaGreatDoorXA7
import Derived.Test.YtddaogebacigbaaGreatDoorXA10
namespace Go.Proofs.YtddaogebacigbaaGreatDoor.XA
open Go.RowKit Go.Proofs.YtddaogebacigbaaGreatDoorW.PrintWords Go.Proofs.YtddaogebacigbaaGreatDoorW.PrintLast Go.Proofs.YtddaogebacigbaaGreatDoorW.PrintMore
attribute [local go_sem] max2_int min2_int max_two min_two max_three min_three max_four min_four   -- for this text's walks alone
set_option linter.unusedVariables false
set_option linter.unusedSimpArgs false

/-! ### transposallaw09_EntryTurns: function 5 -/
open PWide (negL) in
def transposallaw09_EntryTurns.f (k : Nat) (l0 : List S28) (a1 : Int) : Option Bool :=
  (transposallaw09_Awake.f k).bind fun t => if t = true then (if l0.length > 30 then some true else if l0.length = 0 then some true else
    if (l0.all (fun x => (Lit.int .u16 x.f1).wf && (Lit.int .i64 x.f3).wf) && decide (0 ≤ a1 ∧ a1 ≤ 255)) = true then
      (if l0.any (fun x => x.f3 == -9223372036854775808) = true then some true else
        (entry_Journal_Check.f k 0 l0).bind fun p => (entry_Journal_Check.f k 0 (l0.drop (Int.tmod a1 (l0.length : Int)).toNat ++ l0.take (Int.tmod a1 (l0.length : Int)).toNat)).bind fun q => (entry_Journal_Check.f k 0 (l0.map negL)).bind fun s => if p = q ∧ p = s then some true else none)
    else none) else some false
theorem clone_at (a : Option Addr) (n c : Nat) (l : List S28) (W : World) (hn : n = l.length) (h : Kd.C k28 W a l.length l) (hc : n ≤ c) (hl : l.length < 1000000000000) : Calls Tryz.prog 14 #[.slice a n c] W fun e w' => ∃ v0_ : Value, e = .returned (v0_) ∧ Kd.R k28 28 w' W.heap.size (fun _ => True) v0_ l ∧ Below W.heap.size W w' := by
  subst hn
  exact entry_Line_14.calls a c l l W h hc (if_pos hl)
theorem neg_wrap {x : Int} (h : (Lit.int .i64 x).wf = true) (h1 : (x == -9223372036854775808) = false) : wrap64 (-x) = -x := by
  rw [beq_eq_false_iff_ne] at h1
  have h2 : -9223372036854775808 ≤ x ∧ x ≤ 9223372036854775807 := by
    simp [Lit.wf] at h
    exact h
  unfold wrap64
  omega
theorem sums_at (A : Option Addr) (n c : Nat) (l : List S28) (W : World) (hn : n = l.length) (h : Kd.C k28 W A n l) (hl : n ≤ 1000000000) (hwf : ∀ x ∈ l, (Lit.int .u16 x.f1).wf = true) : Calls Tryz.prog 15 #[.agg #[.int .i32 0, .slice A n c]] W fun e w' => ∃ (b : Nat) (D : XMap.DM), e = .returned (.map (some b)) ∧ W.heap.size ≤ b ∧ w'.ownsMap Tryz.prog 26 XMap.wideR b n D ∧ XMap.SumsOf wadd D (jsum l) ∧ Below W.heap.size W w' := by
  subst hn
  exact sums.calls 0 A c l W h hl hwf
theorem check_at (k : Nat) (A : Option Addr) (n c : Nat) (l : List S28) (t : Int) (W : World) (hn : n = l.length) (hG : Glob W) (h : Kd.C k28 W A n l) (hc : n ≤ c) (hf : entry_Journal_Check.f k 0 l = some t) : Calls Tryz.prog 18 #[.agg #[.int .i32 0, .slice A n c]] W fun e w' => e = .returned (.int .i64 t) ∧ Below W.heap.size W w' := by
  subst hn
  exact entry_Journal_Check.calls k 0 A c l t W hG h hc hf
theorem cells6 {W W' : World} {g6 g7 g8 t : Nat} {a b c d e f : Value} (h6 : W.heap[g6]? = some (.cells #[a, b] t (0, 0))) (h7 : W.heap[g7]? = some (.cells #[c, d] t (0, 0))) (h8 : W.heap[g8]? = some (.cells #[e, f] t (0, 0))) (hb : Below W.heap.size W W') :
    W'.cell? ⟨g6, 0, none⟩ = some a ∧ W'.cell? ⟨g6, 1, none⟩ = some b ∧ W'.cell? ⟨g7, 0, none⟩ = some c ∧ W'.cell? ⟨g7, 1, none⟩ = some d ∧ W'.cell? ⟨g8, 0, none⟩ = some e ∧ W'.cell? ⟨g8, 1, none⟩ = some f :=
  ⟨(blk_cell (blk_below h6 hb) 0).trans rfl, (blk_cell (blk_below h6 hb) 1).trans rfl, (blk_cell (blk_below h7 hb) 0).trans rfl, (blk_cell (blk_below h7 hb) 1).trans rfl, (blk_cell (blk_below h8 hb) 0).trans rfl, (blk_cell (blk_below h8 hb) 1).trans rfl⟩
theorem and9 {a b c d e f g h i : Prop} (x : a ∧ b ∧ c ∧ d ∧ e ∧ f) (hg : g) (hh : h) (hi : i) : a ∧ b ∧ c ∧ d ∧ e ∧ f ∧ g ∧ h ∧ i := ⟨x.1, x.2.1, x.2.2.1, x.2.2.2.1, x.2.2.2.2.1, x.2.2.2.2.2, hg, hh, hi⟩
theorem row_C {W : World} {A : Option Addr} {n c b : Nat} {ok : Nat → Prop} {xs : List S28} (h : Kd.R k28 28 W b ok (.slice A n c) xs) (hn : xs.length = n) : Kd.C k28 W A n xs ∧ n ≤ c := by
  subst hn
  exact ⟨(Kd.R_reads' h).2.2, (Kd.R_reads' h).2.1⟩
open PWide (negL) in
set_option maxHeartbeats 8000000 in
set_option maxRecDepth 100000 in
theorem transposallaw09_EntryTurns.calls (k : Nat) (A0 : Option Addr) (c0 : Nat) (l0 : List S28) (a1 : Int) (r : Bool) (w : World) (hr0 : Kd.C k28 w A0 l0.length l0) (hc0 : l0.length ≤ c0) (hG : Glob w) (h : transposallaw09_EntryTurns.f k l0 a1 = some r) :
    Calls Tryz.prog 5 #[.slice A0 l0.length c0, .int .u8 a1] w fun e w' => e = .returned (.bool r) ∧ Below w.heap.size w w' := by
  have hu1 := Tryz.underlying28
  have hu2 := Tryz.underlying41
  have hu3 := Tryz.underlying32
  have HG := Aside0.mk hG
  have HR0 := Aside0.mk hr0
  have HC0 := Aside0.mk hc0
  clear hG hr0 hc0
  have HB := Aside0.mk (Below.refl w.heap.size w)
  unfold transposallaw09_EntryTurns.f at h
  obtain ⟨t, A10, H⟩ := Option.bind_eq_some_iff.mp h
  have A1 := Aside0.mk A10
  clear h A10
  go_enter Tryz.func5, Tryz.ntmps5
  cases t with
  | false =>
    rw [if_neg (by decide)] at H
    obtain rfl := Option.some.inj H
    clear H
    go_wp2_with (go_at_call 13; (with_reducible refine (transposallaw09_Awake.calls k _ _ ?side1 A1.out).mono ?_); (case side1 => exact Glob.below HB.out HG.out); rintro e w1 ⟨rfl, hb⟩; have n0_ := Aside0.mk (below_step HB.out hb); clear HB hb; have HB := n0_; clear n0_)
    go_ret
    exact ⟨rfl, HB.out⟩
  | true =>
    rw [if_pos rfl] at H
    by_cases h30 : l0.length > 30
    · rw [if_pos h30] at H
      obtain rfl := Option.some.inj H
      clear H
      have d1 : decide ((l0.length : Int) > 30) = true := decide_eq_true (by omega)
      have d2 : decide (30 < l0.length) = true := decide_eq_true (by omega)
      go_wp2_with (go_at_call 13; (with_reducible refine (transposallaw09_Awake.calls k _ _ ?side1 A1.out).mono ?_); (case side1 => exact Glob.below HB.out HG.out); rintro e w1 ⟨rfl, hb⟩; have n0_ := Aside0.mk (below_step HB.out hb); clear HB hb; have HB := n0_; clear n0_)
      go_ret
      exact ⟨rfl, HB.out⟩
    rw [if_neg h30] at H
    have d1 : decide ((l0.length : Int) > 30) = false := decide_eq_false (by omega)
    have d2 : decide (30 < l0.length) = false := decide_eq_false (by omega)
    by_cases hz : l0.length = 0
    · rw [if_pos hz] at H
      obtain rfl := Option.some.inj H
      clear H
      have d3 : ((l0.length : Int) == 0) = true := beq_iff_eq.mpr (by omega)
      have d4 : (l0.length == 0) = true := beq_iff_eq.mpr hz
      clear hz
      go_wp2_with (go_at_call 13; (with_reducible refine (transposallaw09_Awake.calls k _ _ ?side1 A1.out).mono ?_); (case side1 => exact Glob.below HB.out HG.out); rintro e w1 ⟨rfl, hb⟩; have n0_ := Aside0.mk (below_step HB.out hb); clear HB hb; have HB := n0_; clear n0_)
      go_ret
      exact ⟨rfl, HB.out⟩
    rw [if_neg hz] at H
    have d3 : ((l0.length : Int) == 0) = false := beq_eq_false_iff_ne.mpr (by omega)
    have d4 : (l0.length == 0) = false := beq_eq_false_iff_ne.mpr hz
    by_cases hw : (l0.all (fun x => (Lit.int .u16 x.f1).wf && (Lit.int .i64 x.f3).wf) && decide (0 ≤ a1 ∧ a1 ≤ 255)) = true
    case neg => rw [if_neg hw] at H; cases H
    rw [if_pos hw] at H
    rw [Bool.and_eq_true, List.all_eq_true, decide_eq_true_iff] at hw
    obtain ⟨hw1, ha0, ha1⟩ := hw
    have HW := Aside0.mk (show ∀ x ∈ l0, (Lit.int .u16 x.f1).wf = true from fun x hx => (Bool.and_eq_true _ _ ▸ hw1 x hx).1)
    have HW2 := Aside0.mk (show ∀ x ∈ l0, (Lit.int .i64 x.f3).wf = true from fun x hx => (Bool.and_eq_true _ _ ▸ hw1 x hx).2)
    have HE := Aside0.mk H
    clear H hw1
    have hm0 := Int.tmod_nonneg (l0.length : Int) ha0
    have hm1 := Int.tmod_lt_of_pos a1 (show (0 : Int) < (l0.length : Int) by omega)
    obtain ⟨i, hi⟩ := Int.eq_ofNat_of_zero_le hm0
    obtain ⟨ad, rfl, _⟩ := at_T28 HR0.out 0 (by omega) (by omega)
    have hil : i < l0.length := by omega
    have hic : i ≤ c0 := by have := HC0.out; omega
    have hlc : l0.length ≤ c0 := HC0.out
    have HDR0 := Kd.C_drop (m := i) HR0.out (by omega) HC0.out
    rw [if_neg (by omega)] at HDR0
    have HDR := Aside0.mk (show Kd.C k28 w (some (ad.add (i * 4))) (l0.drop i).length (l0.drop i) from HDR0)
    have HTK0 := Kd.C_take (m := i) HR0.out (by omega)
    have hti : (l0.take i).length = i := by rw [List.length_take]; omega
    rw [hti] at HTK0
    have HTK := Aside0.mk HTK0
    have HDL := Aside0.mk (show l0.length - i = (l0.drop i).length by rw [List.length_drop])
    have HLL := Aside0.mk (show (l0.drop i).length < 1000000000000 by rw [List.length_drop]; omega)
    have HAL := Aside0.mk (show ((l0.drop i).length + i) * 16 ≤ 140737488355328 by rw [List.length_drop]; omega)
    clear HDR0 HTK0 hti
    go_upto_region 7 with (go_at_call 13; (with_reducible refine (transposallaw09_Awake.calls k _ _ ?side1 A1.out).mono ?_); (case side1 => exact Glob.below HB.out HG.out); rintro e w1 ⟨rfl, hb⟩; have n0_ := Aside0.mk (below_step HB.out hb); clear HB hb; have HB := n0_; clear n0_)
    obtain ⟨g6, hg6⟩ : ∃ g, g = w1.heap.size := ⟨_, rfl⟩
    have BK6 := Aside0.mk (blk_new w1 (Obj.cells #[.int .i32 0, .slice (some ad) l0.length c0] 32))
    have HBa := Aside0.mk (below_alloc HB.out (Obj.cells #[.int .i32 0, .slice (some ad) l0.length c0] 32))
    have HG6 := Aside0.mk (show w.heap.size ≤ g6 by rw [hg6]; exact below_size HB.out)
    rw [← hg6] at BK6 ⊢
    clear hg6 HB
    generalize hwa : w1.alloc (Obj.cells #[.int .i32 0, .slice (some ad) l0.length c0] 32) = wa at BK6 HBa ⊢
    clear hwa
    go_cut [7] (fun s7 wx => ∃ (g7 : Nat) (A7 : Option Addr) (c7 : Nat), s7 = .pointer (some ⟨g7, 0, none⟩) ∧ Aside0 (wx.heap[g7]? = some (.cells #[.int .i32 0, .slice A7 l0.length c7] 32 (0, 0))) ∧ Aside0 (Kd.C k28 wx A7 l0.length (l0.drop i ++ l0.take i)) ∧ Aside0 (l0.length ≤ c7) ∧ Aside0 (Below wa.heap.size wa wx))
    case first =>
      have HLN := Aside0.mk (show (l0.drop i ++ l0.take i).length = l0.length by rw [List.length_append, List.length_drop, List.length_take]; omega)
      have hci : (c0 = i) = False := eq_false (by omega)
      have hb0 : (0 : Int) ≤ (i : Int) := by omega
      have hb1 : (i : Int) ≤ (l0.length : Int) := by omega
      have hb2 : (l0.length : Int) ≤ (c0 : Int) := by omega
      have HBd := Aside0.mk (Below.refl wa.heap.size wa)
      have HBw := HBa
      go_region_held3 (fun _ => True) (trivial)
        (first
          | (go_at_call 14; (with_reducible refine (clone_at (some (ad.add (i * 4))) (l0.length - i) (c0 - i) (l0.drop i) _ HDL.out (Kd.C_below HDR.out (by repeat (first | exact HBw.out | apply below_alloc | apply below_drew))) (by omega) HLL.out).mono ?_); rintro e w2 ⟨v0, rfl, ho, hb⟩; (first | (have BK7 := Aside0.mk (blk_below (blk_drew (blk_new _ _)) hb)) | (have BK7 := Aside0.mk (blk_below (blk_new _ _) hb)) | skip); have HV := Aside0.mk (Kd.R_base ho); have HO := Aside0.mk (Kd.R_lower (base' := wa.heap.size) ho (below_size (by repeat (first | exact HBd.out | apply below_alloc | apply below_drew)))); have HB2 := Aside0.mk (below_step (by repeat (first | exact HBd.out | apply below_alloc | apply below_drew)) hb); clear ho hb)
          | (refine XMem.step_R_append k28 flat28 (w0 := wa) wa.heap.size rfl _ _ 22 22 28 28 (.agg #[.int .u32 0, .int .u16 0, .int .u16 0, .int .i64 0]) 16 rfl Tryz.underlying22 Tryz.underlying22 info28 rfl (by decide) v0 (l0.drop i) (l0.take i) (some ad) i c0 (fun _ => True) rfl rfl ?aO ?aR (fun _ _ => trivial) ?aB ?aS HAL.out ?_; (case aO => (repeat (first | exact HO.out | apply Kd.R_alloc))); (case aR => exact Kd.C_below HTK.out (below_step HBa.out (by repeat (first | exact HB2.out | apply below_alloc | apply below_drew)))); (case aB => (repeat (first | exact HB2.out | apply below_alloc | apply below_drew))); (case aS => exact below_size (by repeat (first | exact HB2.out | apply below_alloc | apply below_drew))); intro v1 w3 q1 q2 q3 q4; obtain ⟨Ao, co, e_⟩ := Kd.R_slice q1; rw [HLN.out] at e_; subst e_; have HOb := Aside0.mk q1; have HBb := Aside0.mk q2; (first | (have BK8 := Aside0.mk (blk_grown BK7.out q3 (fun e_ => by have z_ := HV.out _ e_.symm; simp at z_; omega))) | (have BK8 := Aside0.mk (blk_grown (blk_new _ _) q3 (fun e_ => Nat.lt_irrefl _ (Kd.R_lt HO.out _ e_.symm)))) | skip); (try (have hz0 := show World.cell? w3 ⟨_, 0, none⟩ = some (.int .i32 0) from (blk_cell BK8.out 0).trans rfl; have hz1 := show World.cell? w3 ⟨_, 1, none⟩ = some (.slice none 0 0) from (blk_cell BK8.out 1).trans rfl; have hf0 := blk_frozen BK8.out 0; have hf1 := blk_frozen BK8.out 1)); clear q1 q2 q3 q4)
          | fail)
      all_goals go_wp2_with fail
      all_goals go_meet
      · exact ⟨_, _, _, rfl, ⟨blk_new _ _⟩, ⟨Kd.C_alloc (row_C HOb.out HLN.out).1 _⟩, ⟨(row_C HOb.out HLN.out).2⟩, ⟨below_alloc HBb.out _⟩⟩
      · exact ⟨_, _, _, rfl, ⟨blk_set (blk_set BK8.out 0 _) 1 _⟩, ⟨(row_C (Kd.R_set (Kd.R_set HOb.out BK8.out (by decide) 0 _) (blk_set BK8.out 0 _) (by decide) 1 _) HLN.out).1⟩, ⟨(row_C HOb.out HLN.out).2⟩, ⟨below_set (below_set HBb.out (by have := HB2.out.size; simp; omega)) (by have := HB2.out.size; simp; omega)⟩⟩
      · exact ⟨_, _, _, rfl, ⟨blk_set (blk_set BK8.out 0 _) 1 _⟩, ⟨(row_C (Kd.R_set (Kd.R_set HOb.out BK8.out (by decide) 0 _) (blk_set BK8.out 0 _) (by decide) 1 _) HLN.out).1⟩, ⟨(row_C HOb.out HLN.out).2⟩, ⟨below_set (below_set HBb.out (by simp)) (by simp)⟩⟩
    case rest =>
      obtain ⟨g7, A7, c7, rfl, BK7, HC7, HL7, HB7⟩ := hcut
      have n0_ := Aside0.mk (blk_below BK6.out HB7.out)
      have n1_ := Aside0.mk (below_step HBa.out HB7.out)
      clear BK6 HBa HB7
      have BK6 := n0_
      have HBw := n1_
      clear n0_ n1_
      go_upto_block 0 with fail
      go_wp2_with fail
      obtain ⟨g8, hg8⟩ : ∃ g, g = wc.heap.size := ⟨_, rfl⟩
      have BK8 := Aside0.mk (blk_new wc (Obj.cells #[.int .i32 0, .slice none 0 0] 32))
      have HB8 := Aside0.mk (below_alloc (Below.refl wc.heap.size wc) (Obj.cells #[.int .i32 0, .slice none 0 0] 32))
      have HS8 := Aside0.mk (show g8 + 1 ≤ (wc.alloc (Obj.cells #[.int .i32 0, .slice none 0 0] 32)).heap.size by rw [hg8]; simp)
      rw [← hg8] at BK8 ⊢
      have HG8 := Aside0.mk hg8
      clear hg8
      go_loopw [45] (fun v45 wr => ∃ (j : Nat) (v8 : Value), j ≤ l0.length ∧ v45 = .int .i64 j ∧ Aside0 (∀ i (h : i < l0.length), i < j → (l0[i].f3 == -9223372036854775808) = false) ∧ Aside0 (wr.heap[g8]? = some (.cells #[.int .i32 0, v8] 32 (0, 0))) ∧ Aside0 (Kd.R k28 28 wr (g8 + 1) (fun _ => True) v8 ((l0.take j).map negL)) ∧ Aside0 (Below wc.heap.size wc wr) ∧ Aside0 (g8 + 1 ≤ wr.heap.size)) (fun v45 _ => l0.length - (intOf v45).toNat)
      case atStart => exact ⟨0, .slice none 0 0, Nat.zero_le _, rfl, ⟨fun i _ h => absurd h (Nat.not_lt_zero _)⟩, BK8, ⟨Kd.R_nil _ _ _ _ _⟩, HB8, HS8⟩
      case round =>
        clear BK8 HB8 HS8
        obtain ⟨j, v8, hj, rfl, HN, BK8, HR8, HB8, HS8⟩ := hrel
        by_cases hp : j < l0.length
        · have d0 : decide ((j : Int) < (l0.length : Int)) = true := decide_eq_true (by omega)
          obtain ⟨ad', e_, hc0, hc1, hc2, hc3⟩ := at_T28 (Kd.C_below HR0.out (below_step HBw.out HB8.out)) (j : Int) (by omega) (by omega)
          cases e_
          rw [Int.toNat_natCast] at hc0 hc1 hc2 hc3
          have hrd : rd_T28 l0 (j : Int) = l0[j] := by
            show l0.getD (j : Int).toNat _ = _
            rw [Int.toNat_natCast, List.getD_eq_getElem?_getD, List.getElem?_eq_getElem hp]
            rfl
          rw [hrd] at hc0 hc1 hc2 hc3
          by_cases hm : (l0[j].f3 == -9223372036854775808) = true
          · have HE2 := HE.out
            rw [if_pos (List.any_eq_true.mpr ⟨_, List.getElem_mem hp, hm⟩)] at HE2
            obtain rfl := Option.some.inj HE2
            rw [beq_iff_eq] at hm
            rw [hm] at hc3
            clear HE hm HE2
            go_wp2
            go_ret
            exact ⟨rfl, below_alloc (below_step HBw.out HB8.out) _⟩
          · have hm1 : (l0[j].f3 == -9223372036854775808) = false := (Bool.not_eq_true _).mp hm
            clear hm
            have HWj := HW2.out _ (List.getElem_mem hp)
            have hwr : wrap64 (-l0[j].f3) = -l0[j].f3 := neg_wrap HWj hm1
            clear HWj
            go_upto_region 15 with fail
            have BKn := Aside0.mk (blk_new wr (Obj.cells #[.int .u32 l0[j].f0, .int .u16 l0[j].f1, .int .u16 l0[j].f2, .int .i64 (-l0[j].f3)] 28))
            have BK8n := Aside0.mk (blk_alloc BK8.out (Obj.cells #[.int .u32 l0[j].f0, .int .u16 l0[j].f1, .int .u16 l0[j].f2, .int .i64 (-l0[j].f3)] 28))
            have HR8n := Aside0.mk (Kd.R_alloc HR8.out (Obj.cells #[.int .u32 l0[j].f0, .int .u16 l0[j].f1, .int .u16 l0[j].f2, .int .i64 (-l0[j].f3)] 28))
            have HB8n := Aside0.mk (below_alloc HB8.out (Obj.cells #[.int .u32 l0[j].f0, .int .u16 l0[j].f1, .int .u16 l0[j].f2, .int .i64 (-l0[j].f3)] 28))
            have HS8n := Aside0.mk (show g8 + 1 ≤ (wr.alloc (Obj.cells #[.int .u32 l0[j].f0, .int .u16 l0[j].f1, .int .u16 l0[j].f2, .int .i64 (-l0[j].f3)] 28)).heap.size by have := HS8.out; simp; omega)
            obtain ⟨g10, hg10⟩ : ∃ g, g = wr.heap.size := ⟨_, rfl⟩
            have hgne := Aside0.mk (show g8 ≠ g10 by have := HS8.out; omega)
            rw [← hg10] at BKn ⊢
            clear BK8 HR8 HB8 HS8 hc0 hc1 hc2 hc3 hg10
            generalize wr.alloc (Obj.cells #[.int .u32 l0[j].f0, .int .u16 l0[j].f1, .int .u16 l0[j].f2, .int .i64 (-l0[j].f3)] 28) = wn at BKn BK8n HR8n HB8n HS8n ⊢
            have hlj : ((l0.take j).map negL).length = j := by rw [List.length_map, List.length_take]; omega
            obtain ⟨Ao, co, e_⟩ := Kd.R_slice HR8n.out
            rw [hlj] at e_
            subst e_
            clear hlj
            have hz8 : wn.cell? ⟨g8, 1, none⟩ = some (.slice Ao j co) := (blk_cell BK8n.out 1).trans rfl
            have hf8 := blk_frozen BK8n.out 1
            have hx0 : wn.cell? ⟨g10, 0, none⟩ = some (.int .u32 l0[j].f0) := (blk_cell BKn.out 0).trans rfl
            have hx1 : wn.cell? ⟨g10, 1, none⟩ = some (.int .u16 l0[j].f1) := (blk_cell BKn.out 1).trans rfl
            have hx2 : wn.cell? ⟨g10, 2, none⟩ = some (.int .u16 l0[j].f2) := (blk_cell BKn.out 2).trans rfl
            have hx3 : wn.cell? ⟨g10, 3, none⟩ = some (.int .i64 (-l0[j].f3)) := (blk_cell BKn.out 3).trans rfl
            have HLJ1 := Aside0.mk (show ((l0.take j).map negL ++ [negL l0[j]]).length = j + 1 by rw [List.length_append, List.length_map, List.length_take]; simp; omega)
            have HL8 := Aside0.mk (show (((l0.take j).map negL).length + 1) * 16 ≤ 140737488355328 by rw [List.length_map, List.length_take]; omega)
            go_wp2_with (first
              | (at_builtin; refine Kd.R_append k28 (w0 := wn) (g8 + 1) rfl (.tmp 57) (.tmp 59) 22 28 (.agg #[.int .u32 0, .int .u16 0, .int .u16 0, .int .i64 0]) 16 rfl Tryz.underlying22 info28 rfl (by decide) (by decide) (.slice Ao j co) ((l0.take j).map negL) (negL l0[j]) [.int .u32 l0[j].f0, .int .u16 l0[j].f1, .int .u16 l0[j].f2, .int .i64 (-l0[j].f3)] (fun _ => True) (fun _ => False) rfl rfl (k28_mkM _ _ _ (negL l0[j])) (fun _ hk => hk.elim) (fun _ _ => trivial) HR8n.out (Below.refl _ _) HS8n.out HL8.out ?_; intro v1 w1' q1 q2 q3 q4; obtain ⟨Ao', co', e_⟩ := Kd.R_slice q1; rw [HLJ1.out] at e_; subst e_; have HQ := Aside0.mk q1; have BK8 := Aside0.mk ((q2.block g8 (Nat.lt_succ_self _)).trans BK8n.out); have HB8 := Aside0.mk (HB8n.out.trans (q2.mono (by have := HG8.out; omega))); have HS8 := Aside0.mk (Nat.le_trans HS8n.out q2.size); have hf8 := blk_frozen BK8.out 1; have hz8 := show World.cell? w1' ⟨g8, 1, none⟩ = some _ from (blk_cell BK8.out 1).trans rfl; clear q1 q2 q3 q4)
              | fail)
            go_roundw
            case rel =>
              refine ⟨j + 1, _, by omega, by go_num, ⟨fun i h hlt => ?_⟩, ⟨blk_set BK8.out 1 _⟩, ⟨?_⟩, ⟨below_set HB8.out (by have := HG8.out; omega)⟩, ⟨by have := HS8.out; simpa using this⟩⟩
              · rcases Nat.lt_or_ge i j with h2 | h2
                · exact HN.out i h h2
                · obtain rfl : i = j := by omega
                  exact hm1
              · rw [show (l0.take (j + 1)).map negL = (l0.take j).map negL ++ [negL l0[j]] by rw [List.take_succ_eq_append_getElem hp, List.map_append]; rfl]
                exact Kd.R_set HQ.out BK8.out (by decide) 1 _
            case measure => simp [intOf]; omega
        · have d0 : decide ((j : Int) < (l0.length : Int)) = false := decide_eq_false (by omega)
          obtain rfl : j = l0.length := by omega
          rw [List.take_length] at HR8
          have hany : l0.any (fun x => x.f3 == -9223372036854775808) = false := by
            rw [List.any_eq_false]
            intro x hx
            obtain ⟨i, hi, rfl⟩ := List.getElem_of_mem hx
            rw [HN.out i hi hi]
            simp
          have HE1 := HE.out
          rw [if_neg (by rw [hany]; exact Bool.false_ne_true)] at HE1
          have HNE := Aside0.mk (show ∀ x ∈ l0, x.f3 ≠ -9223372036854775808 from fun x hx => by
            obtain ⟨i, hi, rfl⟩ := List.getElem_of_mem hx
            exact beq_eq_false_iff_ne.1 (HN.out i hi hi))
          clear HE HN hany d1 d2
          have HE := Aside0.mk HE1
          clear HE1
          have hl8 : (l0.map negL).length = l0.length := List.length_map _
          obtain ⟨A8, c8, e_⟩ := Kd.R_slice HR8.out
          rw [hl8] at e_
          subst e_
          have HC8 := Aside0.mk (row_C HR8.out hl8)
          have HL8 := Aside0.mk hl8
          clear HR8 hl8
          have HCa := Aside0.mk (Kd.C_below HR0.out (below_step HBw.out HB8.out))
          have n0_ := Aside0.mk (blk_below BK6.out HB8.out)
          have n1_ := Aside0.mk (blk_below BK7.out HB8.out)
          have n2_ := Aside0.mk (Kd.C_below HC7.out HB8.out)
          have n3_ := Aside0.mk (below_step HBw.out HB8.out)
          clear BK6 BK7 HC7 HBw HB8 HS8 HG8
          have BK6 := n0_
          have BK7 := n1_
          have HC7 := n2_
          have HBw := n3_
          clear n0_ n1_ n2_ n3_
          have HLL := Aside0.mk (show l0.length ≤ 1000000000 by omega)
          have HLR := Aside0.mk (show l0.length = (l0.drop i ++ l0.take i).length by rw [List.length_append, List.length_drop, List.length_take]; omega)
          have HWR := Aside0.mk (show ∀ x ∈ l0.drop i ++ l0.take i, (Lit.int .u16 x.f1).wf = true from fun x hx => HW.out x ((List.mem_append.1 hx).elim (List.mem_of_mem_drop) (List.mem_of_mem_take)))
          have HWN := Aside0.mk (show ∀ x ∈ l0.map negL, (Lit.int .u16 x.f1).wf = true from fun x hx => by obtain ⟨y, hy, rfl⟩ := List.mem_map.1 hx; exact HW.out y hy)
          have HX := Aside0.mk (Below.refl wr.heap.size wr)
          go_upto_region 17 with fail
          go_cut [11, 12, 13] (fun s11 s12 s13 wx => ∃ (b1 b2 b3 : Nat) (D1 D2 D3 : XMap.DM), s11 = .map (some b1) ∧ s12 = .map (some b2) ∧ s13 = .map (some b3) ∧ Aside0 (wx.ownsMap Tryz.prog 26 XMap.wideR b1 l0.length D1) ∧ Aside0 (wx.ownsMap Tryz.prog 26 XMap.wideR b2 l0.length D2) ∧ Aside0 (wx.ownsMap Tryz.prog 26 XMap.wideR b3 l0.length D3) ∧ Aside0 (XMap.SumsOf wadd D1 (jsum l0)) ∧ Aside0 (XMap.SumsOf wadd D2 (jsum (l0.drop i ++ l0.take i))) ∧ Aside0 (XMap.SumsOf wadd D3 (jsum (l0.map negL))) ∧ Aside0 (Below wr.heap.size wr wx))
          case first =>
            go_region_held3 (fun wx => wx.cell? ⟨g6, 0, none⟩ = some (.int .i32 0) ∧ wx.cell? ⟨g6, 1, none⟩ = some (.slice (some ad) l0.length c0) ∧ wx.cell? ⟨g7, 0, none⟩ = some (.int .i32 0) ∧ wx.cell? ⟨g7, 1, none⟩ = some (.slice A7 l0.length c7) ∧ wx.cell? ⟨g8, 0, none⟩ = some (.int .i32 0) ∧ wx.cell? ⟨g8, 1, none⟩ = some (.slice A8 l0.length c8)) (exact cells6 BK6.out BK7.out BK8.out (by repeat (first | exact HX.out | apply below_drew)))
              (first
                | (go_at_call 15; (with_reducible refine (sums_at (some ad) l0.length c0 l0 _ rfl (Kd.C_below HCa.out (by repeat (first | exact HX.out | apply below_drew))) HLL.out HW.out).mono ?_); rintro e w5 ⟨b1, D1, rfl, _, hm1, hs1, hbl⟩; have HM1 := Aside0.mk hm1; have HS1 := Aside0.mk hs1; have n0_ := Aside0.mk (below_step (by repeat (first | exact HX.out | apply below_drew)) hbl); clear HX hm1 hs1 hbl; have HX := n0_; clear n0_)
                | (go_at_call 15; (with_reducible refine (sums_at A7 l0.length c7 (l0.drop i ++ l0.take i) _ HLR.out (Kd.C_below HC7.out (by repeat (first | exact HX.out | apply below_drew))) HLL.out HWR.out).mono ?_); rintro e w6 ⟨b2, D2, rfl, _, hm1, hs1, hbl⟩; have HM2 := Aside0.mk hm1; have HS2 := Aside0.mk hs1; have n0_ := Aside0.mk (below_step (by repeat (first | exact HX.out | apply below_drew)) hbl); have n1_ := Aside0.mk (XMap.own_below HM1.out hbl); clear HX HM1 hm1 hs1 hbl; have HX := n0_; have HM1 := n1_; clear n0_ n1_)
                | (go_at_call 15; (with_reducible refine (sums_at A8 l0.length c8 (l0.map negL) _ HL8.out.symm (Kd.C_below HC8.out.1 (by repeat (first | exact HX.out | apply below_drew))) HLL.out HWN.out).mono ?_); rintro e w7 ⟨b3, D3, rfl, _, hm1, hs1, hbl⟩; have HM3 := Aside0.mk hm1; have HS3 := Aside0.mk hs1; have n0_ := Aside0.mk (below_step (by repeat (first | exact HX.out | apply below_drew)) hbl); have n1_ := Aside0.mk (XMap.own_below HM1.out hbl); have n2_ := Aside0.mk (XMap.own_below HM2.out hbl); clear HX HM1 HM2 hm1 hs1 hbl; have HX := n0_; have HM1 := n1_; have HM2 := n2_; clear n0_ n1_ n2_)
                | fail)
            all_goals go_wp2_with fail
            all_goals go_meet
            all_goals exact ⟨b1, b2, b3, D1, D2, D3, rfl, rfl, rfl, HM1, HM2, HM3, HS1, HS2, HS3, HX⟩
          case rest =>
            obtain ⟨b1, b2, b3, D1, D2, D3, rfl, rfl, rfl, HM1, HM2, HM3, HS1, HS2, HS3, HX⟩ := hcut
            have n0_ := Aside0.mk (blk_below BK6.out HX.out)
            have n1_ := Aside0.mk (blk_below BK7.out HX.out)
            have n2_ := Aside0.mk (blk_below BK8.out HX.out)
            have n3_ := Aside0.mk (Kd.C_below HCa.out HX.out)
            have n4_ := Aside0.mk (Kd.C_below HC7.out HX.out)
            have n5_ := Aside0.mk (Kd.C_below HC8.out.1 HX.out)
            have n6_ := Aside0.mk (below_step HBw.out HX.out)
            have HL8c := Aside0.mk HC8.out.2
            have HG' := Aside0.mk (Glob.below n6_.out HG.out)
            clear BK6 BK7 BK8 HCa HC7 HC8 HBw HX HG
            have HG := HG'
            have BK6 := n0_
            have BK7 := n1_
            have BK8 := n2_
            have HCa := n3_
            have HC7 := n4_
            have HC8 := n5_
            have HBw := n6_
            clear n0_ n1_ n2_ n3_ n4_ n5_ n6_ HG'
            go_wp2_with (first
              | (at_range; refine wpList_range_own _ rfl _ 29 rfl 26 41 lawU16 Tryz.underlying29 XMap.wideR b1 l0.length D1 rfl HM1.out ?_; intro w3 hrg0 hg0 hs0; have HR1 := Aside0.mk hrg0; have HB3 := Aside0.mk (Below.grown (Below.refl wc.heap.size wc) hg0 (Nat.le_refl _) (fun j_ hj_ => by cases hj_)); clear hrg0 hg0 hs0)
              | go_in)
            go_frame
            obtain ⟨rr, hrr⟩ : ∃ g, g = wc.heap.size := ⟨_, rfl⟩
            have HRR := Aside0.mk (show wc.heap.size ≤ rr by omega)
            rw [← hrr] at HR1 ⊢
            clear hrr
            have HLT := Aside0.mk (show b1 < rr ∧ b2 < rr ∧ b3 < rr from ⟨Nat.lt_of_lt_of_le HM1.out.lt HRR.out, Nat.lt_of_lt_of_le HM2.out.lt HRR.out, Nat.lt_of_lt_of_le HM3.out.lt HRR.out⟩)
            have n1_ := Aside0.mk (XMap.own_below HM2.out HB3.out)
            have n2_ := Aside0.mk (XMap.own_below HM3.out HB3.out)
            go_loopw [71] (fun _ wr => ∃ (left : Lit → Bool) (cnt : Nat), Aside0 (wr.ranges Tryz.prog 26 XMap.wideR b1 rr l0.length D1 left cnt) ∧ Aside0 (wr.ownsMap Tryz.prog 26 XMap.wideR b2 l0.length D2) ∧ Aside0 (wr.ownsMap Tryz.prog 26 XMap.wideR b3 l0.length D3) ∧ Aside0 (Below wc.heap.size wc wr)) (fun _ wr => wr.rangeLeft b1 rr)
            case atStart => exact ⟨_, _, HR1, n1_, n2_, HB3⟩
            case round =>
              clear HM1 HM2 HM3 HR1 HB3 n1_ n2_
              obtain ⟨left, cnt, HR1, HM2, HM3, HB3⟩ := hrel
              go_wp2_with (first
                | (at_next; refine XMap.wpList_next_wide rfl _ rfl 26 lawU16 Tryz.underlying26 b1 rr l0.length D1 left cnt rfl HR1.out ?_ ?_)
                | go_in)
              · intro hl0
                clear hl0
                have HE1 := HE.out
                rw [hi, Int.toNat_natCast] at HE1
                obtain ⟨p, P10, HE2⟩ := Option.bind_eq_some_iff.mp HE1
                obtain ⟨q, P20, HE3⟩ := Option.bind_eq_some_iff.mp HE2
                obtain ⟨s, P30, HE4⟩ := Option.bind_eq_some_iff.mp HE3
                by_cases hpq : p = q ∧ p = s
                case neg => rw [if_neg hpq] at HE4; cases HE4
                rw [if_pos hpq] at HE4
                obtain rfl := Option.some.inj HE4
                obtain ⟨rfl, rfl⟩ := hpq
                have P1 := Aside0.mk P10
                have P2 := Aside0.mk P20
                have P3 := Aside0.mk P30
                clear HE HE1 HE2 HE3 HE4 P10 P20 P30
                have ES1 := HR1.out.owns.entries lawU16
                have ES2 := HM2.out.entries lawU16
                have ES3 := HM3.out.entries lawU16
                have e2 : Maps.size D2 = Maps.size D1 := PWide.size_same HS2.out HS1.out ES2 ES1 (PWide.any_perm l0 i)
                have e3 : Maps.size D3 = Maps.size D1 := PWide.size_same HS3.out HS1.out ES3 ES1 (PWide.any_neg l0)
                obtain ⟨mm, hmm⟩ : ∃ m, m = Maps.size D1 := ⟨_, rfl⟩
                rw [← hmm] at e2 e3
                have HL1 := Aside0.mk (show ∀ wx, Below wr.heap.size wr wx → (Builtin.len_ #[29] 3 #[.map (some b1)]).run Tryz.prog wx = .ok (.int .i64 (mm : Int)) wx from fun wx hb => by have := (XMap.own_below HR1.out.owns hb).len Tryz.underlying29 3; rw [← hmm] at this; exact this)
                have HL2 := Aside0.mk (show ∀ wx, Below wr.heap.size wr wx → (Builtin.len_ #[29] 3 #[.map (some b2)]).run Tryz.prog wx = .ok (.int .i64 (mm : Int)) wx from fun wx hb => by have := (XMap.own_below HM2.out hb).len Tryz.underlying29 3; rw [e2] at this; exact this)
                have HL3 := Aside0.mk (show ∀ wx, Below wr.heap.size wr wx → (Builtin.len_ #[29] 3 #[.map (some b3)]).run Tryz.prog wx = .ok (.int .i64 (mm : Int)) wx from fun wx hb => by have := (XMap.own_below HM3.out hb).len Tryz.underlying29 3; rw [e3] at this; exact this)
                clear ES1 ES2 ES3 e2 e3 hmm
                have n0_ := Aside0.mk (blk_below BK6.out HB3.out)
                have n1_ := Aside0.mk (blk_below BK7.out HB3.out)
                have n2_ := Aside0.mk (blk_below BK8.out HB3.out)
                have n3_ := Aside0.mk (Kd.C_below HCa.out HB3.out)
                have n4_ := Aside0.mk (Kd.C_below HC7.out HB3.out)
                have n5_ := Aside0.mk (Kd.C_below HC8.out HB3.out)
                have n6_ := Aside0.mk (below_step HBw.out HB3.out)
                have n7_ := Aside0.mk (Glob.below HB3.out HG.out)
                clear BK6 BK7 BK8 HCa HC7 HC8 HBw HB3 HG
                have HG := n7_
                have BK6 := n0_
                have BK7 := n1_
                have BK8 := n2_
                have HCa := n3_
                have HC7 := n4_
                have HC8 := n5_
                have HBw := n6_
                clear n0_ n1_ n2_ n3_ n4_ n5_ n6_ n7_
                have HX := Aside0.mk (Below.refl wr.heap.size wr)
                go_upto_region 23 with fail
                go_region_held3 (fun wx => wx.cell? ⟨g6, 0, none⟩ = some (.int .i32 0) ∧ wx.cell? ⟨g6, 1, none⟩ = some (.slice (some ad) l0.length c0) ∧ wx.cell? ⟨g7, 0, none⟩ = some (.int .i32 0) ∧ wx.cell? ⟨g7, 1, none⟩ = some (.slice A7 l0.length c7) ∧ wx.cell? ⟨g8, 0, none⟩ = some (.int .i32 0) ∧ wx.cell? ⟨g8, 1, none⟩ = some (.slice A8 l0.length c8) ∧ (Builtin.len_ #[29] 3 #[.map (some b1)]).run Tryz.prog wx = .ok (.int .i64 (mm : Int)) wx ∧ (Builtin.len_ #[29] 3 #[.map (some b2)]).run Tryz.prog wx = .ok (.int .i64 (mm : Int)) wx ∧ (Builtin.len_ #[29] 3 #[.map (some b3)]).run Tryz.prog wx = .ok (.int .i64 (mm : Int)) wx) (exact and9 (cells6 BK6.out BK7.out BK8.out (by repeat (first | exact HX.out | apply below_drew))) (HL1.out _ (by repeat (first | exact HX.out | apply below_drew))) (HL2.out _ (by repeat (first | exact HX.out | apply below_drew))) (HL3.out _ (by repeat (first | exact HX.out | apply below_drew))))
                  (first
                    | (go_at_call 18; (with_reducible refine (check_at k (some ad) l0.length c0 l0 p _ rfl ?side1 ?side2 HC0.out P1.out).mono ?_); (case side1 => exact Glob.below (by repeat (first | exact HX.out | apply below_drew)) HG.out); (case side2 => exact Kd.C_below HCa.out (by repeat (first | exact HX.out | apply below_drew))); rintro e w5 ⟨rfl, hbl⟩; have n0_ := Aside0.mk (below_step (by repeat (first | exact HX.out | apply below_drew)) hbl); clear HX hbl; have HX := n0_; clear n0_)
                    | (go_at_call 18; (with_reducible refine (check_at k A7 l0.length c7 (l0.drop i ++ l0.take i) p _ HLR.out ?side1 ?side2 HL7.out P2.out).mono ?_); (case side1 => exact Glob.below (by repeat (first | exact HX.out | apply below_drew)) HG.out); (case side2 => exact Kd.C_below HC7.out (by repeat (first | exact HX.out | apply below_drew))); rintro e w5 ⟨rfl, hbl⟩; have n0_ := Aside0.mk (below_step (by repeat (first | exact HX.out | apply below_drew)) hbl); clear HX hbl; have HX := n0_; clear n0_)
                    | (go_at_call 18; (with_reducible refine (check_at k A8 l0.length c8 (l0.map PWide.negL) p _ HL8.out.symm ?side1 ?side2 HL8c.out P3.out).mono ?_); (case side1 => exact Glob.below (by repeat (first | exact HX.out | apply below_drew)) HG.out); (case side2 => exact Kd.C_below HC8.out (by repeat (first | exact HX.out | apply below_drew))); rintro e w5 ⟨rfl, hbl⟩; have n0_ := Aside0.mk (below_step (by repeat (first | exact HX.out | apply below_drew)) hbl); clear HX hbl; have HX := n0_; clear n0_)
                    | fail)
                all_goals go_wp2
                all_goals go_ret
                all_goals exact ⟨rfl, below_step HBw.out HX.out⟩
              · intro x q1 q2 w5 cnt1 hcame hen
                have CM := Aside0.mk hcame
                have HSU := Aside0.mk (show XMap.sumOf wadd (jsum l0) x = (q1, q2) from XMap.wideD_inj ((HS1.out.look x).symm.trans (CM.out.at_ _)))
                clear hcame
                go_upto_region 21 with fail
                have BK15 := Aside0.mk (blk_new w5 (Obj.cells #[.int .i64 q1, .int .u64 q2] 41))
                have HR1n := Aside0.mk (CM.out.ranges.alloc (Obj.cells #[.int .i64 q1, .int .u64 q2] 41))
                have HM2n := Aside0.mk ((HM2.out.kept CM.out.grown (by rw [Ne, Option.some.injEq]; have := HLT.out; omega)).alloc (Obj.cells #[.int .i64 q1, .int .u64 q2] 41))
                have HM3n := Aside0.mk ((HM3.out.kept CM.out.grown (by rw [Ne, Option.some.injEq]; have := HLT.out; omega)).alloc (Obj.cells #[.int .i64 q1, .int .u64 q2] 41))
                have HBn := Aside0.mk (below_alloc (Below.grown HB3.out CM.out.grown (below_size HB3.out) (fun j_ hj_ => by cases hj_; exact HRR.out)) (Obj.cells #[.int .i64 q1, .int .u64 q2] 41))
                obtain ⟨g15, hg15⟩ : ∃ g, g = w5.heap.size := ⟨_, rfl⟩
                rw [← hg15] at BK15 ⊢
                clear hg15
                have HLE := Aside0.mk (show cnt1 < wr.rangeLeft b1 rr by rw [HR1.out.left_eq]; exact CM.out.less)
                have HWX := Aside0.mk CM.out.wf
                clear HR1 HM2 HM3 HB3 CM hen
                generalize w5.alloc (Obj.cells #[.int .i64 q1, .int .u64 q2] 41) = wn at BK15 HR1n HM2n HM3n HBn ⊢
                have hkey := Go.Maps.keyOf_int_mk Tryz.underlying26 HWX.out
                obtain ⟨n1, n2, hn⟩ : ∃ n1 n2, PWide.wneg (q1, q2) = (n1, n2) := ⟨_, _, rfl⟩
                have HIN := Aside0.mk (show PWide.InR (q1, q2) by rw [← HSU.out]; exact PWide.turn_in l0 HW2.out x)
                have HNG := Aside0.mk (show wide_Neg.f q1 q2 = some (n1, n2) by have := PWide.wneg_is HIN.out; rw [hn] at this; exact this)
                have HA2 := Aside0.mk (show D2.atKey (XMap.key x) (XMap.wideD (0, 0)) = XMap.wideD (q1, q2) by rw [HS2.out.look, PWide.turn_swap l0 i HW2.out, HSU.out])
                have HA3 := Aside0.mk (show D3.atKey (XMap.key x) (XMap.wideD (0, 0)) = XMap.wideD (n1, n2) by rw [HS3.out.look, PWide.turn_neg l0 HW2.out HNE.out, HSU.out, hn])
                have HRA := Aside0.mk (show ∀ wx : World, wx.ownsMap Tryz.prog 26 XMap.wideR b2 l0.length D2 → (Instr.lookup 29 (.map (some b2)) (.int .u16 x) false).run Tryz.prog wx = .ok (.agg #[.int .i64 q1, .int .u64 q2]) wx from fun wx h => XMap.run_lookup h lawU16 Tryz.underlying29 (zeroWide _) hkey HA2.out)
                have HRB := Aside0.mk (show ∀ wx : World, wx.ownsMap Tryz.prog 26 XMap.wideR b3 l0.length D3 → (Instr.lookup 29 (.map (some b3)) (.int .u16 x) false).run Tryz.prog wx = .ok (.agg #[.int .i64 n1, .int .u64 n2]) wx from fun wx h => XMap.run_lookup h lawU16 Tryz.underlying29 (zeroWide _) hkey HA3.out)
                have hr2 := HRA.out wn.drew HM2n.out.drew
                have hr3 := HRB.out wn.drew HM3n.out.drew
                have hf0 : wn.drew.cell? ⟨g15, 0, none⟩ = some (.int .i64 q1) := (blk_cell (blk_drew BK15.out) 0).trans rfl
                have hf1 : wn.drew.cell? ⟨g15, 1, none⟩ = some (.int .u64 q2) := (blk_cell (blk_drew BK15.out) 1).trans rfl
                clear hkey hn HA2 HA3 HIN
                go_region_held3 (fun wx => wx.cell? ⟨g15, 0, none⟩ = some (.int .i64 q1) ∧ wx.cell? ⟨g15, 1, none⟩ = some (.int .u64 q2)) (first | exact ⟨hf0, hf1⟩ | exact ⟨(blk_cell BK15.out 0).trans rfl, (blk_cell BK15.out 1).trans rfl⟩ | assumption)
                  (first
                    | (go_at_call 20; (with_reducible refine (wide_Neg.calls q1 q2 n1 n2 _ HNG.out).mono ?_); rintro e w6 ⟨rfl, hb⟩; have n0_ := Aside0.mk (blk_below (blk_drew BK15.out) hb); have n1_ := Aside0.mk (XMap.own_below HM2n.out.drew hb); have n2_ := Aside0.mk (XMap.own_below HM3n.out.drew hb); have n3_ := Aside0.mk (below_step (below_drew HBn.out) hb); have n4_ := Aside0.mk (XMap.ranges_below (XMap.ranges_drew HR1n.out) hb); clear BK15 HM2n HM3n HBn HR1n hb; have BK15 := n0_; have HM2n := n1_; have HM3n := n2_; have HBn := n3_; have HR1n := n4_; clear n0_ n1_ n2_ n3_ n4_; have hr3 := HRB.out _ HM3n.out)
                    | fail)
                all_goals go_wp2
                exact ⟨⟨_, _, HR1n, HM2n, HM3n, HBn⟩, by rw [HR1n.out.left_eq]; exact HLE.out⟩
                all_goals exact ⟨⟨_, _, HR1n, HM2n, HM3n, HBn⟩, by rw [HR1n.out.left_eq]; exact HLE.out⟩

/-- THE ONE PURE STATEMENT of transposallaw09_EntryTurns: yours. -/
def transposallaw09_EntryTurns.Pure : Prop := ∀ (l0 : List (S28)) (a1 : Int), l0.length ≤ maxLen → (∀ y, y ∈ l0 → ((Lit.int .u32 y.f0).wf = true ∧ (Lit.int .u16 y.f1).wf = true ∧ (Lit.int .u16 y.f2).wf = true ∧ (Lit.int .i64 y.f3).wf = true)) → (Lit.int .u8 a1).wf = true → ∃ k, transposallaw09_EntryTurns.f k l0 a1 = some true

end Go.Proofs.YtddaogebacigbaaGreatDoor.XA
