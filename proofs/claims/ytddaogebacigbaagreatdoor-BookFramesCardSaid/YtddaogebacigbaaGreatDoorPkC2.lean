/- The runs of this program's functions, in one text (part 2 of 2). Conditions: none. -/
import Derived.Test.YtddaogebacigbaaGreatDoorPkC1
section
open Go Go.Proofs.YtddaogebacigbaaGreatDoor.RV Go.Proofs.YtddaogebacigbaaGreatDoor.XA.Awk Go.Proofs.YtddaogebacigbaaGreatDoor.RV.ChartMath Go.Proofs
namespace Go.Proofs.YtddaogebacigbaaGreatDoor.RV.T
set_option maxRecDepth 100000
set_option linter.unusedVariables false
set_option linter.unusedSimpArgs false
variable {spc : Sp}
theorem befA_some {l : List Acc} {j : Nat} (h : 0 < j) (hj : j ≤ l.length) : ∃ m, befA l j = some m := by
  cases j with
  | zero => omega
  | succ j => exact ⟨l[j].code, by simp only [befA, List.getElem?_eq_getElem (show j < l.length by omega)]; rfl⟩
theorem check6_ok (l : List Acc) (p : PV) (hw : ∀ a ∈ l, AccOk a) (hp : IsSl 4 (l.map accP) p) (hl : l.length < 1000000) : Fn (cfg spc) 37 [p] (· = i64P (chkChart l)) := by
  refine Fn.go Tryz.func37 (L := [(0, _)]) rfl rfl rfl (by simp [deepL, hp.deep, deepB]) rfl ?_
  refine Ps.seq ?_
  refine Ps.region rfl ?_
  refine Rs.assign (p := .lit _) rfl rfl ?_
  refine Rs.nil ?_
  refine Ps.thn ?_
  refine Ps.seq ?_
  refine Ps.seq ?_
  refine Ps.region rfl ?_
  refine Rs.move rfl rfl ?_
  first | refine Rs.lenD rfl rfl rfl rfl ?_ | refine Rs.lenO rfl rfl rfl rfl ?_ | refine Rs.lenI rfl rfl rfl rfl ?_ | refine Rs.lenA rfl rfl rfl rfl (by assumption) ?_ | refine Rs.lenS rfl rfl rfl rfl (by assumption) ?_
  refine Rs.binB rfl rfl rfl rfl rfl rfl ?_
  refine Rs.nil ?_
  refine Ps.thn ?_
  refine Ps.if rfl (fun hc => ?_) (fun hc => ?_)
  · try replace hc := dc hc
    refine Ps.seq ?_
    refine Ps.region rfl ?_
    refine Rs.assign (p := .lit _) rfl rfl ?_
    refine Rs.nil ?_
    refine Ps.thn ?_
    refine Ps.ret ?_
    refine Ps.thn_ret ?_
    -- leaf 1 (ret)
    refine Ps.finL rfl rfl rfl ?_
    refine congrArg (fun n => PV.lit (.int .i64 n)) ?_
    first
      | (unfold chkChart; rw [if_pos (by simp at hc; omega)]; done)
      | (rw [if_pos (by omega)] at hjc; exact chk_err h200 hjc (by decide))
      | (rw [if_pos (by simpa using hc)] at hjc; exact chk_err h200 hjc (by decide))
      | (obtain ⟨m, hm⟩ := befA_some (l := l) (show 0 < j by omega) hj
         rw [hm] at hc hjc
         rw [if_pos (by simpa using hc)] at hjc; exact chk_err h200 hjc (by decide))
      | (refine chk_two h200 hA ?_
         rw [← hic]
         first
           | (have hn : find l y.parent = none := by simpa using hc
              rw [hn]; done)
           | (rw [if_pos (by rw [hb] at hc; simpa using hc)]; done)
           | (rw [if_pos (by simp at hc; omega)]; done)
           | (rw [List.drop_eq_nil_of_le (by simp at hc; omega), chkP]; done))
  · try replace hc := dc hc
    refine Ps.skip ?_
    refine Ps.thn ?_
    refine Ps.seq ?_
    refine Ps.region rfl ?_
    refine Rs.assign (p := .lit _) rfl rfl ?_
    refine Rs.nil ?_
    refine Ps.thn ?_
    refine Ps.seq ?_
    refine Ps.seq ?_
    refine Ps.region rfl ?_
    refine Rs.move rfl rfl ?_
    first | refine Rs.lenD rfl rfl rfl rfl ?_ | refine Rs.lenO rfl rfl rfl rfl ?_ | refine Rs.lenI rfl rfl rfl rfl ?_ | refine Rs.lenA rfl rfl rfl rfl (by assumption) ?_ | refine Rs.lenS rfl rfl rfl rfl (by assumption) ?_
    refine Rs.move (p := .lit _) rfl rfl ?_
    refine Rs.nil ?_
    refine Ps.thn ?_
    refine Ps.block ?_
    -- loop 1 writes [2, 3, 4, 5, 15, 16, 17, 18, 19, 20, 21, 22, 23, 24, 25, 26, 27, 28, 29, 30, 31, 32, 33, 34, 35, 36, 37, 38, 39, 40, 41, 42, 43, 44, 45, 46, 47, 48, 49]
    have h200 : l.length ≤ 200 := by simp at hc; omega
    refine Ps.loop (J := Nat) ⟨fun j => j ≤ l.length ∧ chkA (befA l j) (l.drop j) = chkA none l ∧ Sorted (l.take j), fun j => [(3, u32P ((befA l j).getD 0)), (15, i64P j)], fun _ => [], fun j => l.length - j⟩ [2, 3, 4, 5, 15, 16, 17, 18, 19, 20, 21, 22, 23, 24, 25, 26, 27, 28, 29, 30, 31, 32, 33, 34, 35, 36, 37, 38, 39, 40, 41, 42, 43, 44, 45, 46, 47, 48, 49] [(14, _), (13, _), (12, _), (11, _), (10, _), (0, _)] 0 rfl ⟨Nat.zero_le _, rfl, by simp [Sorted]⟩ ⟨rfl, rfl, trivial⟩ (List.nil_sublist _) (fun j hj => ?_)
    obtain ⟨hj, hjc, hS⟩ : j ≤ l.length ∧ chkA (befA l j) (l.drop j) = chkA none l ∧ Sorted (l.take j) := hj
    dsimp only [List.cons_append, List.nil_append]
    refine Ps.seq ?_
    refine Ps.region rfl ?_
    refine Rs.binB rfl rfl rfl rfl rfl rfl ?_
    refine Rs.nil ?_
    refine Ps.thn ?_
    refine Ps.seq ?_
    refine Ps.if rfl (fun hc => ?_) (fun hc => ?_)
    · try replace hc := dc hc
      refine Ps.skip ?_
      refine Ps.thn ?_
      refine Ps.seq ?_
      refine Ps.block ?_
      refine Ps.seq ?_
      have hlt : j < l.length := by simp at hc; omega
      obtain ⟨x, hx⟩ := at_lt hlt
      have hxo := hw x (List.mem_of_getElem? hx)
      have hx0 := hxo.code
      rw [drop_at hx, chkA] at hjc
      refine Ps.region rfl ?_
      refine Rs.move rfl rfl ?_
      first | refine Rs.indexD (lc := [_, _, _, _]) rfl rfl rfl rfl rfl rfl (map_at hx) rfl ?_ | refine Rs.indexS (lc := [_, _, _, _]) rfl rfl rfl rfl rfl (by assumption) rfl (map_at hx) rfl ?_
      first | refine Rs.loadR (p := .agg [_, _, _, _]) rfl rfl rfl rfl ?_ | refine Rs.loadP (p := .agg [_, _, _, _]) 0 rfl rfl rfl rfl rfl ?_ | refine Rs.loadP (p := .agg [_, _, _, _]) 1 rfl rfl rfl rfl rfl ?_ | refine Rs.loadP (p := .agg [_, _, _, _]) 2 rfl rfl rfl rfl rfl ?_ | refine Rs.loadP (p := .agg [_, _, _, _]) 3 rfl rfl rfl rfl rfl ?_
      refine Rs.alloc (z := .agg [_, _, _, _]) (c := 4) rfl rfl rfl (fun g5 => ?_)
      refine Rs.assign rfl rfl ?_
      first | refine Rs.store0 (l' := [.agg [_, _, _, _]]) rfl rfl rfl (by first | rfl | exact storeB_ag rfl rfl rfl (by simp [scalars, sc_int, sc_str, sc_bool, sc_nil, sc_dsl, sc_own, sc_g, sc_f, *]) | exact storeB_fld rfl (by first | assumption | exact cl_g | exact cl_f) (by first | assumption | exact sc_g | exact sc_f) rfl) ?_ | refine Rs.store1 (l' := [.agg [_, _, _, _]]) rfl rfl rfl (by first | rfl | exact storeB_ag rfl rfl rfl (by simp [scalars, sc_int, sc_str, sc_bool, sc_nil, sc_dsl, sc_own, sc_g, sc_f, *]) | exact storeB_fld rfl (by first | assumption | exact cl_g | exact cl_f) (by first | assumption | exact sc_g | exact sc_f) rfl) ?_ | refine Rs.store2 (l' := [.agg [_, _, _, _]]) rfl rfl rfl (by first | rfl | exact storeB_ag rfl rfl rfl (by simp [scalars, sc_int, sc_str, sc_bool, sc_nil, sc_dsl, sc_own, sc_g, sc_f, *]) | exact storeB_fld rfl (by first | assumption | exact cl_g | exact cl_f) (by first | assumption | exact sc_g | exact sc_f) rfl) ?_ | refine Rs.store3 (l' := [.agg [_, _, _, _]]) rfl rfl rfl (by first | rfl | exact storeB_ag rfl rfl rfl (by simp [scalars, sc_int, sc_str, sc_bool, sc_nil, sc_dsl, sc_own, sc_g, sc_f, *]) | exact storeB_fld rfl (by first | assumption | exact cl_g | exact cl_f) (by first | assumption | exact sc_g | exact sc_f) rfl) ?_
      refine Rs.nil ?_
      refine Ps.thn ?_
      refine Ps.seq ?_
      refine Ps.block ?_
      refine Ps.seq ?_
      refine Ps.region rfl ?_
      first | refine Rs.fieldAddrD (off' := 0) rfl rfl rfl rfl ?_ | refine Rs.fieldAddrP (off' := 0) rfl rfl rfl rfl ?_
      first | refine Rs.loadR rfl rfl rfl rfl ?_ | refine Rs.loadP 0 rfl rfl rfl rfl rfl ?_ | refine Rs.loadP 1 rfl rfl rfl rfl rfl ?_ | refine Rs.loadP 2 rfl rfl rfl rfl rfl ?_ | refine Rs.loadP 3 rfl rfl rfl rfl rfl ?_
      refine Rs.binB rfl rfl rfl rfl rfl rfl ?_
      refine Rs.move rfl rfl ?_
      refine Rs.guard1 (w' := true) rfl rfl rfl (fun hg => ?_) (fun hg => ?_)
      · try replace hg := dc hg
        first | refine Rs.fieldAddrD (off' := 0) rfl rfl rfl rfl ?_ | refine Rs.fieldAddrP (off' := 0) rfl rfl rfl rfl ?_
        refine Rs.guardT rfl ?_
        first | refine Rs.loadR rfl rfl rfl rfl ?_ | refine Rs.loadP 0 rfl rfl rfl rfl rfl ?_ | refine Rs.loadP 1 rfl rfl rfl rfl rfl ?_ | refine Rs.loadP 2 rfl rfl rfl rfl rfl ?_ | refine Rs.loadP 3 rfl rfl rfl rfl rfl ?_
        refine Rs.guardT rfl ?_
        refine Rs.binB rfl rfl rfl rfl rfl rfl ?_
        refine Rs.pickF (p := .lit _) rfl rfl rfl rfl ?_
        refine Rs.assign rfl rfl ?_
        refine Rs.nil ?_
        refine Ps.thn ?_
        refine Ps.if rfl (fun hc => ?_) (fun hc => ?_)
        · try replace hc := dc hc
          refine Ps.seq ?_
          refine Ps.region rfl ?_
          refine Rs.assign (p := .lit _) rfl rfl ?_
          refine Rs.nil ?_
          refine Ps.thn ?_
          refine Ps.ret ?_
          refine Ps.blk_ret ?_
          refine Ps.thn_ret ?_
          refine Ps.blk_ret ?_
          refine Ps.thn_ret ?_
          refine Ps.rnd_ret ?_
          refine Ps.blk_ret ?_
          refine Ps.thn_ret ?_
          -- leaf 2 (ret)
          refine Ps.finL rfl rfl rfl ?_
          refine congrArg (fun n => PV.lit (.int .i64 n)) ?_
          first
            | (unfold chkChart; rw [if_pos (by simp at hc; omega)]; done)
            | (rw [if_pos (by omega)] at hjc; exact chk_err h200 hjc (by decide))
            | (rw [if_pos (by simpa using hc)] at hjc; exact chk_err h200 hjc (by decide))
            | (obtain ⟨m, hm⟩ := befA_some (l := l) (show 0 < j by omega) hj
               rw [hm] at hc hjc
               rw [if_pos (by simpa using hc)] at hjc; exact chk_err h200 hjc (by decide))
            | (refine chk_two h200 hA ?_
               rw [← hic]
               first
                 | (have hn : find l y.parent = none := by simpa using hc
                    rw [hn]; done)
                 | (rw [if_pos (by rw [hb] at hc; simpa using hc)]; done)
                 | (rw [if_pos (by simp at hc; omega)]; done)
                 | (rw [List.drop_eq_nil_of_le (by simp at hc; omega), chkP]; done))
        · try replace hc := dc hc
          refine Ps.seq ?_
          have hcode : 1 ≤ x.code ∧ x.code ≤ 999999 := by omega
          rw [if_neg (by omega)] at hjc
          refine Ps.region rfl ?_
          refine Rs.move rfl rfl ?_
          refine Rs.binB rfl rfl rfl rfl rfl rfl ?_
          refine Rs.move rfl rfl ?_
          refine Rs.guard1 (w' := false) rfl rfl rfl (fun hg => ?_) (fun hg => ?_)
          · try replace hg := dc hg
            first | refine Rs.fieldAddrD (off' := 0) rfl rfl rfl rfl ?_ | refine Rs.fieldAddrP (off' := 0) rfl rfl rfl rfl ?_
            refine Rs.guardT rfl ?_
            first | refine Rs.loadR rfl rfl rfl rfl ?_ | refine Rs.loadP 0 rfl rfl rfl rfl rfl ?_ | refine Rs.loadP 1 rfl rfl rfl rfl rfl ?_ | refine Rs.loadP 2 rfl rfl rfl rfl rfl ?_ | refine Rs.loadP 3 rfl rfl rfl rfl rfl ?_
            refine Rs.guardT rfl ?_
            refine Rs.move rfl rfl ?_
            refine Rs.guardT rfl ?_
            refine Rs.binB rfl rfl rfl rfl rfl rfl ?_
            refine Rs.pickT (q := .lit _) rfl rfl rfl rfl ?_
            refine Rs.assign rfl rfl ?_
            refine Rs.nil ?_
            refine Ps.thn ?_
            refine Ps.if rfl (fun hc => ?_) (fun hc => ?_)
            · try replace hc := dc hc
              refine Ps.seq ?_
              refine Ps.region rfl ?_
              refine Rs.assign (p := .lit _) rfl rfl ?_
              refine Rs.nil ?_
              refine Ps.thn ?_
              refine Ps.ret ?_
              refine Ps.blk_ret ?_
              refine Ps.thn_ret ?_
              refine Ps.blk_ret ?_
              refine Ps.thn_ret ?_
              refine Ps.rnd_ret ?_
              refine Ps.blk_ret ?_
              refine Ps.thn_ret ?_
              -- leaf 3 (ret)
              refine Ps.finL rfl rfl rfl ?_
              refine congrArg (fun n => PV.lit (.int .i64 n)) ?_
              first
                | (unfold chkChart; rw [if_pos (by simp at hc; omega)]; done)
                | (rw [if_pos (by omega)] at hjc; exact chk_err h200 hjc (by decide))
                | (rw [if_pos (by simpa using hc)] at hjc; exact chk_err h200 hjc (by decide))
                | (obtain ⟨m, hm⟩ := befA_some (l := l) (show 0 < j by omega) hj
                   rw [hm] at hc hjc
                   rw [if_pos (by simpa using hc)] at hjc; exact chk_err h200 hjc (by decide))
                | (refine chk_two h200 hA ?_
                   rw [← hic]
                   first
                     | (have hn : find l y.parent = none := by simpa using hc
                        rw [hn]; done)
                     | (rw [if_pos (by rw [hb] at hc; simpa using hc)]; done)
                     | (rw [if_pos (by simp at hc; omega)]; done)
                     | (rw [List.drop_eq_nil_of_le (by simp at hc; omega), chkP]; done))
            · try replace hc := dc hc
              refine Ps.seq ?_
              have ho : (befA l j).any (fun m => decide (x.code ≤ m)) = false := by
                first
                  | (have h0 : j = 0 := by omega
                     subst h0; rfl)
                  | (obtain ⟨m, hm⟩ := befA_some (l := l) (show 0 < j by omega) hj
                     rw [hm] at hc ⊢
                     simpa using hc)
              rw [if_neg (by rw [ho]; decide)] at hjc
              refine Ps.region rfl ?_
              first | refine Rs.fieldAddrD (off' := 1) rfl rfl rfl rfl ?_ | refine Rs.fieldAddrP (off' := 1) rfl rfl rfl rfl ?_
              first | refine Rs.loadR rfl rfl rfl rfl ?_ | refine Rs.loadP 0 rfl rfl rfl rfl rfl ?_ | refine Rs.loadP 1 rfl rfl rfl rfl rfl ?_ | refine Rs.loadP 2 rfl rfl rfl rfl rfl ?_ | refine Rs.loadP 3 rfl rfl rfl rfl rfl ?_
              refine Rs.call3 rfl rfl rfl rfl (spc.name6 hxo.name) ?_
              refine Rs.not rfl rfl ?_
              refine Rs.assign rfl rfl ?_
              refine Rs.nil ?_
              refine Ps.thn ?_
              refine Ps.if rfl (fun hc => ?_) (fun hc => ?_)
              · try replace hc := dc hc
                refine Ps.seq ?_
                refine Ps.region rfl ?_
                refine Rs.assign (p := .lit _) rfl rfl ?_
                refine Rs.nil ?_
                refine Ps.thn ?_
                refine Ps.ret ?_
                refine Ps.blk_ret ?_
                refine Ps.thn_ret ?_
                refine Ps.blk_ret ?_
                refine Ps.thn_ret ?_
                refine Ps.rnd_ret ?_
                refine Ps.blk_ret ?_
                refine Ps.thn_ret ?_
                -- leaf 4 (ret)
                refine Ps.finL rfl rfl rfl ?_
                refine congrArg (fun n => PV.lit (.int .i64 n)) ?_
                first
                  | (unfold chkChart; rw [if_pos (by simp at hc; omega)]; done)
                  | (rw [if_pos (by omega)] at hjc; exact chk_err h200 hjc (by decide))
                  | (rw [if_pos (by simpa using hc)] at hjc; exact chk_err h200 hjc (by decide))
                  | (obtain ⟨m, hm⟩ := befA_some (l := l) (show 0 < j by omega) hj
                     rw [hm] at hc hjc
                     rw [if_pos (by simpa using hc)] at hjc; exact chk_err h200 hjc (by decide))
                  | (refine chk_two h200 hA ?_
                     rw [← hic]
                     first
                       | (have hn : find l y.parent = none := by simpa using hc
                          rw [hn]; done)
                       | (rw [if_pos (by rw [hb] at hc; simpa using hc)]; done)
                       | (rw [if_pos (by simp at hc; omega)]; done)
                       | (rw [List.drop_eq_nil_of_le (by simp at hc; omega), chkP]; done))
              · try replace hc := dc hc
                refine Ps.seq ?_
                have hnm : nmOk x.name.data.toList = true := by simpa using hc
                rw [if_neg (by rw [hnm]; decide)] at hjc
                refine Ps.region rfl ?_
                first | refine Rs.fieldAddrD (off' := 2) rfl rfl rfl rfl ?_ | refine Rs.fieldAddrP (off' := 2) rfl rfl rfl rfl ?_
                first | refine Rs.loadR rfl rfl rfl rfl ?_ | refine Rs.loadP 0 rfl rfl rfl rfl rfl ?_ | refine Rs.loadP 1 rfl rfl rfl rfl rfl ?_ | refine Rs.loadP 2 rfl rfl rfl rfl rfl ?_ | refine Rs.loadP 3 rfl rfl rfl rfl rfl ?_
                refine Rs.binB rfl rfl rfl rfl rfl rfl ?_
                refine Rs.assign rfl rfl ?_
                refine Rs.nil ?_
                refine Ps.thn ?_
                refine Ps.if rfl (fun hc => ?_) (fun hc => ?_)
                · try replace hc := dc hc
                  refine Ps.seq ?_
                  refine Ps.region rfl ?_
                  refine Rs.assign (p := .lit _) rfl rfl ?_
                  refine Rs.nil ?_
                  refine Ps.thn ?_
                  refine Ps.ret ?_
                  refine Ps.blk_ret ?_
                  refine Ps.thn_ret ?_
                  refine Ps.blk_ret ?_
                  refine Ps.thn_ret ?_
                  refine Ps.rnd_ret ?_
                  refine Ps.blk_ret ?_
                  refine Ps.thn_ret ?_
                  -- leaf 5 (ret)
                  refine Ps.finL rfl rfl rfl ?_
                  refine congrArg (fun n => PV.lit (.int .i64 n)) ?_
                  first
                    | (unfold chkChart; rw [if_pos (by simp at hc; omega)]; done)
                    | (rw [if_pos (by omega)] at hjc; exact chk_err h200 hjc (by decide))
                    | (rw [if_pos (by simpa using hc)] at hjc; exact chk_err h200 hjc (by decide))
                    | (obtain ⟨m, hm⟩ := befA_some (l := l) (show 0 < j by omega) hj
                       rw [hm] at hc hjc
                       rw [if_pos (by simpa using hc)] at hjc; exact chk_err h200 hjc (by decide))
                    | (refine chk_two h200 hA ?_
                       rw [← hic]
                       first
                         | (have hn : find l y.parent = none := by simpa using hc
                            rw [hn]; done)
                         | (rw [if_pos (by rw [hb] at hc; simpa using hc)]; done)
                         | (rw [if_pos (by simp at hc; omega)]; done)
                         | (rw [List.drop_eq_nil_of_le (by simp at hc; omega), chkP]; done))
                · try replace hc := dc hc
                  refine Ps.skip ?_
                  refine Ps.blk ?_
                  refine Ps.thn ?_
                  refine Ps.region rfl ?_
                  first | refine Rs.fieldAddrD (off' := 0) rfl rfl rfl rfl ?_ | refine Rs.fieldAddrP (off' := 0) rfl rfl rfl rfl ?_
                  first | refine Rs.loadR rfl rfl rfl rfl ?_ | refine Rs.loadP 0 rfl rfl rfl rfl rfl ?_ | refine Rs.loadP 1 rfl rfl rfl rfl rfl ?_ | refine Rs.loadP 2 rfl rfl rfl rfl rfl ?_ | refine Rs.loadP 3 rfl rfl rfl rfl rfl ?_
                  refine Rs.assign rfl rfl ?_
                  refine Rs.nil ?_
                  refine Ps.blk ?_
                  refine Ps.thn ?_
                  refine Ps.region rfl ?_
                  refine Rs.add rfl rfl rfl (by first | exact W_i64s (by omega) | exact W_i64 (by omega) (by omega) | rfl) ?_
                  refine Rs.move rfl rfl ?_
                  refine Rs.nil ?_
                  -- leaf 6 (round1)
                  have hk : ¬ 5 ≤ x.kind := by have := hxo.kind; simp at hc; omega
                  rw [if_neg hk] at hjc
                  refine Ps.round (j + 1) ⟨hlt, ?_, sorted_snoc hx hS ho⟩ (by show l.length - (j + 1) < l.length - j; omega) ⟨(by show some (u32P x.code) = some (u32P (((l[j]?).map Acc.code).getD 0)); rw [hx]; rfl), rfl, trivial⟩ (by repeat' first | exact HasL.nil | refine HasL.cons rfl ?_) (List.nil_sublist _)
                  show chkA ((l[j]?).map Acc.code) _ = _
                  simp only [hx, Option.map_some]
                  exact hjc
          · try replace hg := dc hg
            refine Rs.guardF1 rfl rfl rfl ?_
            refine Rs.guardF1 rfl rfl rfl ?_
            refine Rs.guardF1 rfl rfl rfl ?_
            refine Rs.pickF (q := .lit _) rfl rfl rfl rfl ?_
            refine Rs.assign rfl rfl ?_
            refine Rs.nil ?_
            refine Ps.thn ?_
            refine Ps.ifF rfl ?_
            refine Ps.seq ?_
            have ho : (befA l j).any (fun m => decide (x.code ≤ m)) = false := by
              first
                | (have h0 : j = 0 := by omega
                   subst h0; rfl)
                | (obtain ⟨m, hm⟩ := befA_some (l := l) (show 0 < j by omega) hj
                   rw [hm] at hc ⊢
                   simpa using hc)
            rw [if_neg (by rw [ho]; decide)] at hjc
            refine Ps.region rfl ?_
            first | refine Rs.fieldAddrD (off' := 1) rfl rfl rfl rfl ?_ | refine Rs.fieldAddrP (off' := 1) rfl rfl rfl rfl ?_
            first | refine Rs.loadR rfl rfl rfl rfl ?_ | refine Rs.loadP 0 rfl rfl rfl rfl rfl ?_ | refine Rs.loadP 1 rfl rfl rfl rfl rfl ?_ | refine Rs.loadP 2 rfl rfl rfl rfl rfl ?_ | refine Rs.loadP 3 rfl rfl rfl rfl rfl ?_
            refine Rs.call3 rfl rfl rfl rfl (spc.name6 hxo.name) ?_
            refine Rs.not rfl rfl ?_
            refine Rs.assign rfl rfl ?_
            refine Rs.nil ?_
            refine Ps.thn ?_
            refine Ps.if rfl (fun hc => ?_) (fun hc => ?_)
            · try replace hc := dc hc
              refine Ps.seq ?_
              refine Ps.region rfl ?_
              refine Rs.assign (p := .lit _) rfl rfl ?_
              refine Rs.nil ?_
              refine Ps.thn ?_
              refine Ps.ret ?_
              refine Ps.blk_ret ?_
              refine Ps.thn_ret ?_
              refine Ps.blk_ret ?_
              refine Ps.thn_ret ?_
              refine Ps.rnd_ret ?_
              refine Ps.blk_ret ?_
              refine Ps.thn_ret ?_
              -- leaf 7 (ret)
              refine Ps.finL rfl rfl rfl ?_
              refine congrArg (fun n => PV.lit (.int .i64 n)) ?_
              first
                | (unfold chkChart; rw [if_pos (by simp at hc; omega)]; done)
                | (rw [if_pos (by omega)] at hjc; exact chk_err h200 hjc (by decide))
                | (rw [if_pos (by simpa using hc)] at hjc; exact chk_err h200 hjc (by decide))
                | (obtain ⟨m, hm⟩ := befA_some (l := l) (show 0 < j by omega) hj
                   rw [hm] at hc hjc
                   rw [if_pos (by simpa using hc)] at hjc; exact chk_err h200 hjc (by decide))
                | (refine chk_two h200 hA ?_
                   rw [← hic]
                   first
                     | (have hn : find l y.parent = none := by simpa using hc
                        rw [hn]; done)
                     | (rw [if_pos (by rw [hb] at hc; simpa using hc)]; done)
                     | (rw [if_pos (by simp at hc; omega)]; done)
                     | (rw [List.drop_eq_nil_of_le (by simp at hc; omega), chkP]; done))
            · try replace hc := dc hc
              refine Ps.seq ?_
              have hnm : nmOk x.name.data.toList = true := by simpa using hc
              rw [if_neg (by rw [hnm]; decide)] at hjc
              refine Ps.region rfl ?_
              first | refine Rs.fieldAddrD (off' := 2) rfl rfl rfl rfl ?_ | refine Rs.fieldAddrP (off' := 2) rfl rfl rfl rfl ?_
              first | refine Rs.loadR rfl rfl rfl rfl ?_ | refine Rs.loadP 0 rfl rfl rfl rfl rfl ?_ | refine Rs.loadP 1 rfl rfl rfl rfl rfl ?_ | refine Rs.loadP 2 rfl rfl rfl rfl rfl ?_ | refine Rs.loadP 3 rfl rfl rfl rfl rfl ?_
              refine Rs.binB rfl rfl rfl rfl rfl rfl ?_
              refine Rs.assign rfl rfl ?_
              refine Rs.nil ?_
              refine Ps.thn ?_
              refine Ps.if rfl (fun hc => ?_) (fun hc => ?_)
              · try replace hc := dc hc
                refine Ps.seq ?_
                refine Ps.region rfl ?_
                refine Rs.assign (p := .lit _) rfl rfl ?_
                refine Rs.nil ?_
                refine Ps.thn ?_
                refine Ps.ret ?_
                refine Ps.blk_ret ?_
                refine Ps.thn_ret ?_
                refine Ps.blk_ret ?_
                refine Ps.thn_ret ?_
                refine Ps.rnd_ret ?_
                refine Ps.blk_ret ?_
                refine Ps.thn_ret ?_
                -- leaf 8 (ret)
                refine Ps.finL rfl rfl rfl ?_
                refine congrArg (fun n => PV.lit (.int .i64 n)) ?_
                first
                  | (unfold chkChart; rw [if_pos (by simp at hc; omega)]; done)
                  | (rw [if_pos (by omega)] at hjc; exact chk_err h200 hjc (by decide))
                  | (rw [if_pos (by simpa using hc)] at hjc; exact chk_err h200 hjc (by decide))
                  | (obtain ⟨m, hm⟩ := befA_some (l := l) (show 0 < j by omega) hj
                     rw [hm] at hc hjc
                     rw [if_pos (by simpa using hc)] at hjc; exact chk_err h200 hjc (by decide))
                  | (refine chk_two h200 hA ?_
                     rw [← hic]
                     first
                       | (have hn : find l y.parent = none := by simpa using hc
                          rw [hn]; done)
                       | (rw [if_pos (by rw [hb] at hc; simpa using hc)]; done)
                       | (rw [if_pos (by simp at hc; omega)]; done)
                       | (rw [List.drop_eq_nil_of_le (by simp at hc; omega), chkP]; done))
              · try replace hc := dc hc
                refine Ps.skip ?_
                refine Ps.blk ?_
                refine Ps.thn ?_
                refine Ps.region rfl ?_
                first | refine Rs.fieldAddrD (off' := 0) rfl rfl rfl rfl ?_ | refine Rs.fieldAddrP (off' := 0) rfl rfl rfl rfl ?_
                first | refine Rs.loadR rfl rfl rfl rfl ?_ | refine Rs.loadP 0 rfl rfl rfl rfl rfl ?_ | refine Rs.loadP 1 rfl rfl rfl rfl rfl ?_ | refine Rs.loadP 2 rfl rfl rfl rfl rfl ?_ | refine Rs.loadP 3 rfl rfl rfl rfl rfl ?_
                refine Rs.assign rfl rfl ?_
                refine Rs.nil ?_
                refine Ps.blk ?_
                refine Ps.thn ?_
                refine Ps.region rfl ?_
                refine Rs.add rfl rfl rfl (by first | exact W_i64s (by omega) | exact W_i64 (by omega) (by omega) | rfl) ?_
                refine Rs.move rfl rfl ?_
                refine Rs.nil ?_
                -- leaf 9 (round1)
                have hk : ¬ 5 ≤ x.kind := by have := hxo.kind; simp at hc; omega
                rw [if_neg hk] at hjc
                refine Ps.round (j + 1) ⟨hlt, ?_, sorted_snoc hx hS ho⟩ (by show l.length - (j + 1) < l.length - j; omega) ⟨(by show some (u32P x.code) = some (u32P (((l[j]?).map Acc.code).getD 0)); rw [hx]; rfl), rfl, trivial⟩ (by repeat' first | exact HasL.nil | refine HasL.cons rfl ?_) (List.nil_sublist _)
                show chkA ((l[j]?).map Acc.code) _ = _
                simp only [hx, Option.map_some]
                exact hjc
      · try replace hg := dc hg
        refine Rs.guardF1 rfl rfl rfl ?_
        refine Rs.guardF1 rfl rfl rfl ?_
        refine Rs.pickT (p := .lit _) rfl rfl rfl rfl ?_
        refine Rs.assign rfl rfl ?_
        refine Rs.nil ?_
        refine Ps.thn ?_
        refine Ps.ifT rfl ?_
        refine Ps.seq ?_
        refine Ps.region rfl ?_
        refine Rs.assign (p := .lit _) rfl rfl ?_
        refine Rs.nil ?_
        refine Ps.thn ?_
        refine Ps.ret ?_
        refine Ps.blk_ret ?_
        refine Ps.thn_ret ?_
        refine Ps.blk_ret ?_
        refine Ps.thn_ret ?_
        refine Ps.rnd_ret ?_
        refine Ps.blk_ret ?_
        refine Ps.thn_ret ?_
        -- leaf 10 (ret)
        refine Ps.finL rfl rfl rfl ?_
        refine congrArg (fun n => PV.lit (.int .i64 n)) ?_
        first
          | (unfold chkChart; rw [if_pos (by simp at hc; omega)]; done)
          | (rw [if_pos (by omega)] at hjc; exact chk_err h200 hjc (by decide))
          | (rw [if_pos (by simpa using hc)] at hjc; exact chk_err h200 hjc (by decide))
          | (obtain ⟨m, hm⟩ := befA_some (l := l) (show 0 < j by omega) hj
             rw [hm] at hc hjc
             rw [if_pos (by simpa using hc)] at hjc; exact chk_err h200 hjc (by decide))
          | (refine chk_two h200 hA ?_
             rw [← hic]
             first
               | (have hn : find l y.parent = none := by simpa using hc
                  rw [hn]; done)
               | (rw [if_pos (by rw [hb] at hc; simpa using hc)]; done)
               | (rw [if_pos (by simp at hc; omega)]; done)
               | (rw [List.drop_eq_nil_of_le (by simp at hc; omega), chkP]; done))
    · try replace hc := dc hc
      refine Ps.exit ?_
      refine Ps.thn_exit ?_
      refine Ps.rnd_exit ?_
      refine Ps.blk_here ?_
      refine Ps.thn ?_
      refine Ps.seq ?_
      refine Ps.seq ?_
      refine Ps.region rfl ?_
      refine Rs.move rfl rfl ?_
      first | refine Rs.lenD rfl rfl rfl rfl ?_ | refine Rs.lenO rfl rfl rfl rfl ?_ | refine Rs.lenI rfl rfl rfl rfl ?_ | refine Rs.lenA rfl rfl rfl rfl (by assumption) ?_ | refine Rs.lenS rfl rfl rfl rfl (by assumption) ?_
      refine Rs.move (p := .lit _) rfl rfl ?_
      refine Rs.nil ?_
      refine Ps.thn ?_
      refine Ps.block ?_
      -- loop 2 writes [2, 7, 8, 9, 52, 53, 54, 55, 56, 57, 58, 59, 60, 61, 62, 63, 64, 65, 66, 67, 68, 69, 70, 71, 72, 73, 74, 75, 76, 77, 78]
      have hjl : l.length ≤ j := by simp at hc; omega
      have hS : Sorted l := by rw [List.take_of_length_le hjl] at hS; exact hS
      have hA : chkA none l = 0 := by rw [← hjc, List.drop_eq_nil_of_le hjl, chkA]
      clear hjc
      refine Ps.loop (J := Nat) ⟨fun i => i ≤ l.length ∧ chkP l (l.drop i) = chkP l l, fun i => [(52, i64P i)], fun _ => [], fun i => l.length - i⟩ [2, 7, 8, 9, 52, 53, 54, 55, 56, 57, 58, 59, 60, 61, 62, 63, 64, 65, 66, 67, 68, 69, 70, 71, 72, 73, 74, 75, 76, 77, 78] [(51, _), (50, _), (16, _), (3, _), (15, _), (14, _), (13, _), (12, _), (11, _), (10, _), (0, _)] 0 rfl ⟨Nat.zero_le _, rfl⟩ ⟨rfl, trivial⟩ (List.nil_sublist _) (fun i hi => ?_)
      obtain ⟨hi, hic⟩ : i ≤ l.length ∧ chkP l (l.drop i) = chkP l l := hi
      dsimp only [List.cons_append, List.nil_append]
      refine Ps.seq ?_
      refine Ps.region rfl ?_
      refine Rs.binB rfl rfl rfl rfl rfl rfl ?_
      refine Rs.nil ?_
      refine Ps.thn ?_
      refine Ps.seq ?_
      refine Ps.if rfl (fun hc => ?_) (fun hc => ?_)
      · try replace hc := dc hc
        refine Ps.skip ?_
        refine Ps.thn ?_
        refine Ps.seq ?_
        refine Ps.block ?_
        refine Ps.seq ?_
        have hlt2 : i < l.length := by simp at hc; omega
        obtain ⟨y, hy⟩ := at_lt hlt2
        rw [drop_at hy, chkP] at hic
        refine Ps.region rfl ?_
        first | refine Rs.indexD (lc := [_, _, _, _]) rfl rfl rfl rfl rfl rfl (map_at hy) rfl ?_ | refine Rs.indexS (lc := [_, _, _, _]) rfl rfl rfl rfl rfl (by assumption) rfl (map_at hy) rfl ?_
        first | refine Rs.loadR (p := .agg [_, _, _, _]) rfl rfl rfl rfl ?_ | refine Rs.loadP (p := .agg [_, _, _, _]) 0 rfl rfl rfl rfl rfl ?_ | refine Rs.loadP (p := .agg [_, _, _, _]) 1 rfl rfl rfl rfl rfl ?_ | refine Rs.loadP (p := .agg [_, _, _, _]) 2 rfl rfl rfl rfl rfl ?_ | refine Rs.loadP (p := .agg [_, _, _, _]) 3 rfl rfl rfl rfl rfl ?_
        refine Rs.alloc (z := .agg [_, _, _, _]) (c := 4) rfl rfl rfl (fun g7 => ?_)
        first | refine Rs.store0 (l' := [.agg [_, _, _, _]]) rfl rfl rfl (by first | rfl | exact storeB_ag rfl rfl rfl (by simp [scalars, sc_int, sc_str, sc_bool, sc_nil, sc_dsl, sc_own, sc_g, sc_f, *]) | exact storeB_fld rfl (by first | assumption | exact cl_g | exact cl_f) (by first | assumption | exact sc_g | exact sc_f) rfl) ?_ | refine Rs.store1 (l' := [.agg [_, _, _, _]]) rfl rfl rfl (by first | rfl | exact storeB_ag rfl rfl rfl (by simp [scalars, sc_int, sc_str, sc_bool, sc_nil, sc_dsl, sc_own, sc_g, sc_f, *]) | exact storeB_fld rfl (by first | assumption | exact cl_g | exact cl_f) (by first | assumption | exact sc_g | exact sc_f) rfl) ?_ | refine Rs.store2 (l' := [.agg [_, _, _, _]]) rfl rfl rfl (by first | rfl | exact storeB_ag rfl rfl rfl (by simp [scalars, sc_int, sc_str, sc_bool, sc_nil, sc_dsl, sc_own, sc_g, sc_f, *]) | exact storeB_fld rfl (by first | assumption | exact cl_g | exact cl_f) (by first | assumption | exact sc_g | exact sc_f) rfl) ?_ | refine Rs.store3 (l' := [.agg [_, _, _, _]]) rfl rfl rfl (by first | rfl | exact storeB_ag rfl rfl rfl (by simp [scalars, sc_int, sc_str, sc_bool, sc_nil, sc_dsl, sc_own, sc_g, sc_f, *]) | exact storeB_fld rfl (by first | assumption | exact cl_g | exact cl_f) (by first | assumption | exact sc_g | exact sc_f) rfl) ?_
        refine Rs.nil ?_
        refine Ps.thn ?_
        refine Ps.seq ?_
        refine Ps.seq ?_
        refine Ps.region rfl ?_
        first | refine Rs.fieldAddrD (off' := 3) rfl rfl rfl rfl ?_ | refine Rs.fieldAddrP (off' := 3) rfl rfl rfl rfl ?_
        first | refine Rs.loadR rfl rfl rfl rfl ?_ | refine Rs.loadP 0 rfl rfl rfl rfl rfl ?_ | refine Rs.loadP 1 rfl rfl rfl rfl rfl ?_ | refine Rs.loadP 2 rfl rfl rfl rfl rfl ?_ | refine Rs.loadP 3 rfl rfl rfl rfl rfl ?_
        refine Rs.binB rfl rfl rfl rfl rfl rfl ?_
        refine Rs.nil ?_
        refine Ps.thn ?_
        refine Ps.if rfl (fun hc => ?_) (fun hc => ?_)
        · try replace hc := dc hc
          refine Ps.exit ?_
          refine Ps.thn_exit ?_
          refine Ps.blk_here ?_
          refine Ps.thn ?_
          refine Ps.region rfl ?_
          refine Rs.add rfl rfl rfl (by first | exact W_i64s (by omega) | exact W_i64 (by omega) (by omega) | rfl) ?_
          refine Rs.move rfl rfl ?_
          refine Rs.nil ?_
          -- leaf 11 (round2)
          refine Ps.round (i + 1) ⟨hlt2, ?_⟩ (by show l.length - (i + 1) < l.length - i; omega) ⟨rfl, trivial⟩ (by repeat' first | exact HasL.nil | refine HasL.cons rfl ?_) (List.nil_sublist _)
          rw [← hic]
          first
            | (rw [if_pos (by simpa using hc)]; done)
            | (rw [if_neg (by simp at hc; omega)]; done)
        · try replace hc := dc hc
          refine Ps.skip ?_
          refine Ps.thn ?_
          refine Ps.seq ?_
          rw [if_neg (by simpa using hc)] at hic
          refine Ps.region rfl ?_
          refine Rs.move rfl rfl ?_
          first | refine Rs.fieldAddrD (off' := 3) rfl rfl rfl rfl ?_ | refine Rs.fieldAddrP (off' := 3) rfl rfl rfl rfl ?_
          first | refine Rs.loadR rfl rfl rfl rfl ?_ | refine Rs.loadP 0 rfl rfl rfl rfl rfl ?_ | refine Rs.loadP 1 rfl rfl rfl rfl rfl ?_ | refine Rs.loadP 2 rfl rfl rfl rfl rfl ?_ | refine Rs.loadP 3 rfl rfl rfl rfl rfl ?_
          refine Rs.call1 rfl rfl rfl (fun H hH => DpL.top (n := 98000) (by repeat' first | exact DpL.nil | apply DpL.cons (Dp.plain _ rfl rfl) | apply DpL.cons (Dp.sl _ (by assumption)) | apply DpL.cons (Dp.up (Dp.g (by assumption) hH (fun x hx => by first | (simp [hx]; done) | exact List.mem_cons_of_mem _ (List.mem_append_left _ hx) | exact List.mem_cons_of_mem _ (List.mem_cons_of_mem _ (List.mem_append_left _ hx)) | exact List.mem_append_left _ hx) (by intro p hp; obtain ⟨x, _, rfl⟩ := List.mem_map.1 hp; rfl) (by simp; omega)) rfl) | apply DpL.cons (Dp.agg (n := 96000) ?_ rfl)) rfl) (get_ok l _ _ hp hl) (by first | (intro p hp; rw [hp]; rfl) | (rintro p ⟨r, rfl, _⟩; rfl)) (fun p63 hp => ?_)
          obtain rfl := hp
          refine Rs.move rfl rfl ?_
          refine Rs.extract rfl rfl rfl ?_
          refine Rs.extract rfl rfl rfl ?_
          refine Rs.alloc (z := .agg [_, _, _, _]) (c := 4) rfl rfl rfl (fun g8 => ?_)
          first | refine Rs.store0 (l' := [.agg [_, _, _, _]]) rfl rfl rfl (by first | rfl | exact storeB_ag rfl rfl rfl (by simp [scalars, sc_int, sc_str, sc_bool, sc_nil, sc_dsl, sc_own, sc_g, sc_f, *]) | exact storeB_fld rfl (by first | assumption | exact cl_g | exact cl_f) (by first | assumption | exact sc_g | exact sc_f) rfl) ?_ | refine Rs.store1 (l' := [.agg [_, _, _, _]]) rfl rfl rfl (by first | rfl | exact storeB_ag rfl rfl rfl (by simp [scalars, sc_int, sc_str, sc_bool, sc_nil, sc_dsl, sc_own, sc_g, sc_f, *]) | exact storeB_fld rfl (by first | assumption | exact cl_g | exact cl_f) (by first | assumption | exact sc_g | exact sc_f) rfl) ?_ | refine Rs.store2 (l' := [.agg [_, _, _, _]]) rfl rfl rfl (by first | rfl | exact storeB_ag rfl rfl rfl (by simp [scalars, sc_int, sc_str, sc_bool, sc_nil, sc_dsl, sc_own, sc_g, sc_f, *]) | exact storeB_fld rfl (by first | assumption | exact cl_g | exact cl_f) (by first | assumption | exact sc_g | exact sc_f) rfl) ?_ | refine Rs.store3 (l' := [.agg [_, _, _, _]]) rfl rfl rfl (by first | rfl | exact storeB_ag rfl rfl rfl (by simp [scalars, sc_int, sc_str, sc_bool, sc_nil, sc_dsl, sc_own, sc_g, sc_f, *]) | exact storeB_fld rfl (by first | assumption | exact cl_g | exact cl_f) (by first | assumption | exact sc_g | exact sc_f) rfl) ?_
          refine Rs.assign rfl rfl ?_
          refine Rs.nil ?_
          refine Ps.thn ?_
          refine Ps.seq ?_
          refine Ps.seq ?_
          refine Ps.region rfl ?_
          refine Rs.move rfl rfl ?_
          refine Rs.not rfl rfl ?_
          refine Rs.nil ?_
          refine Ps.thn ?_
          refine Ps.if rfl (fun hc => ?_) (fun hc => ?_)
          · try replace hc := dc hc
            refine Ps.seq ?_
            refine Ps.region rfl ?_
            refine Rs.assign (p := .lit _) rfl rfl ?_
            refine Rs.nil ?_
            refine Ps.thn ?_
            refine Ps.ret ?_
            refine Ps.thn_ret ?_
            refine Ps.blk_ret ?_
            refine Ps.thn_ret ?_
            refine Ps.rnd_ret ?_
            refine Ps.blk_ret ?_
            refine Ps.thn_ret ?_
            -- leaf 12 (ret)
            refine Ps.finL rfl rfl rfl ?_
            refine congrArg (fun n => PV.lit (.int .i64 n)) ?_
            first
              | (unfold chkChart; rw [if_pos (by simp at hc; omega)]; done)
              | (rw [if_pos (by omega)] at hjc; exact chk_err h200 hjc (by decide))
              | (rw [if_pos (by simpa using hc)] at hjc; exact chk_err h200 hjc (by decide))
              | (obtain ⟨m, hm⟩ := befA_some (l := l) (show 0 < j by omega) hj
                 rw [hm] at hc hjc
                 rw [if_pos (by simpa using hc)] at hjc; exact chk_err h200 hjc (by decide))
              | (refine chk_two h200 hA ?_
                 rw [← hic]
                 first
                   | (have hn : find l y.parent = none := by simpa using hc
                      rw [hn]; done)
                   | (rw [if_pos (by rw [hb] at hc; simpa using hc)]; done)
                   | (rw [if_pos (by simp at hc; omega)]; done)
                   | (rw [List.drop_eq_nil_of_le (by simp at hc; omega), chkP]; done))
          · try replace hc := dc hc
            refine Ps.skip ?_
            refine Ps.thn ?_
            refine Ps.seq ?_
            refine Ps.seq ?_
            obtain ⟨b, hb⟩ := Option.isSome_iff_exists.1 (show (find l y.parent).isSome = true by simpa using hc)
            rw [hb] at hic
            dsimp only at hic
            refine Ps.region rfl ?_
            first | refine Rs.fieldAddrD (off' := 2) rfl rfl rfl rfl ?_ | refine Rs.fieldAddrP (off' := 2) rfl rfl rfl rfl ?_
            first | refine Rs.loadR rfl rfl rfl rfl ?_ | refine Rs.loadP 0 rfl rfl rfl rfl rfl ?_ | refine Rs.loadP 1 rfl rfl rfl rfl rfl ?_ | refine Rs.loadP 2 rfl rfl rfl rfl rfl ?_ | refine Rs.loadP 3 rfl rfl rfl rfl rfl ?_
            first | refine Rs.fieldAddrD (off' := 2) rfl rfl rfl rfl ?_ | refine Rs.fieldAddrP (off' := 2) rfl rfl rfl rfl ?_
            first | refine Rs.loadR rfl rfl rfl rfl ?_ | refine Rs.loadP 0 rfl rfl rfl rfl rfl ?_ | refine Rs.loadP 1 rfl rfl rfl rfl rfl ?_ | refine Rs.loadP 2 rfl rfl rfl rfl rfl ?_ | refine Rs.loadP 3 rfl rfl rfl rfl rfl ?_
            refine Rs.binB rfl rfl rfl rfl rfl rfl ?_
            refine Rs.nil ?_
            refine Ps.thn ?_
            refine Ps.if rfl (fun hc => ?_) (fun hc => ?_)
            · try replace hc := dc hc
              refine Ps.seq ?_
              refine Ps.region rfl ?_
              refine Rs.assign (p := .lit _) rfl rfl ?_
              refine Rs.nil ?_
              refine Ps.thn ?_
              refine Ps.ret ?_
              refine Ps.thn_ret ?_
              refine Ps.blk_ret ?_
              refine Ps.thn_ret ?_
              refine Ps.rnd_ret ?_
              refine Ps.blk_ret ?_
              refine Ps.thn_ret ?_
              -- leaf 13 (ret)
              refine Ps.finL rfl rfl rfl ?_
              refine congrArg (fun n => PV.lit (.int .i64 n)) ?_
              first
                | (unfold chkChart; rw [if_pos (by simp at hc; omega)]; done)
                | (rw [if_pos (by omega)] at hjc; exact chk_err h200 hjc (by decide))
                | (rw [if_pos (by simpa using hc)] at hjc; exact chk_err h200 hjc (by decide))
                | (obtain ⟨m, hm⟩ := befA_some (l := l) (show 0 < j by omega) hj
                   rw [hm] at hc hjc
                   rw [if_pos (by simpa using hc)] at hjc; exact chk_err h200 hjc (by decide))
                | (refine chk_two h200 hA ?_
                   rw [← hic]
                   first
                     | (have hn : find l y.parent = none := by simpa using hc
                        rw [hn]; done)
                     | (rw [if_pos (by rw [hb] at hc; simpa using hc)]; done)
                     | (rw [if_pos (by simp at hc; omega)]; done)
                     | (rw [List.drop_eq_nil_of_le (by simp at hc; omega), chkP]; done))
            · try replace hc := dc hc
              refine Ps.skip ?_
              refine Ps.thn ?_
              refine Ps.seq ?_
              rw [if_neg (by rw [hb] at hc; simpa using hc)] at hic
              refine Ps.region rfl ?_
              refine Rs.move rfl rfl ?_
              first | refine Rs.fieldAddrD (off' := 0) rfl rfl rfl rfl ?_ | refine Rs.fieldAddrP (off' := 0) rfl rfl rfl rfl ?_
              first | refine Rs.loadR rfl rfl rfl rfl ?_ | refine Rs.loadP 0 rfl rfl rfl rfl rfl ?_ | refine Rs.loadP 1 rfl rfl rfl rfl rfl ?_ | refine Rs.loadP 2 rfl rfl rfl rfl rfl ?_ | refine Rs.loadP 3 rfl rfl rfl rfl rfl ?_
              refine Rs.call1 rfl rfl rfl (fun H hH => DpL.top (n := 98000) (by repeat' first | exact DpL.nil | apply DpL.cons (Dp.plain _ rfl rfl) | apply DpL.cons (Dp.sl _ (by assumption)) | apply DpL.cons (Dp.up (Dp.g (by assumption) hH (fun x hx => by first | (simp [hx]; done) | exact List.mem_cons_of_mem _ (List.mem_append_left _ hx) | exact List.mem_cons_of_mem _ (List.mem_cons_of_mem _ (List.mem_append_left _ hx)) | exact List.mem_append_left _ hx) (by intro p hp; obtain ⟨x, _, rfl⟩ := List.mem_map.1 hp; rfl) (by simp; omega)) rfl) | apply DpL.cons (Dp.agg (n := 96000) ?_ rfl)) rfl) (deep_ok l _ _ hp hl) (by first | (intro p hp; rw [hp]; rfl) | (rintro p ⟨r, rfl, _⟩; rfl)) (fun p76 hp => ?_)
              obtain rfl := hp
              refine Rs.binB rfl rfl rfl rfl rfl rfl ?_
              refine Rs.nil ?_
              refine Ps.thn ?_
              refine Ps.if rfl (fun hc => ?_) (fun hc => ?_)
              · try replace hc := dc hc
                refine Ps.seq ?_
                refine Ps.region rfl ?_
                refine Rs.assign (p := .lit _) rfl rfl ?_
                refine Rs.nil ?_
                refine Ps.thn ?_
                refine Ps.ret ?_
                refine Ps.blk_ret ?_
                refine Ps.thn_ret ?_
                refine Ps.rnd_ret ?_
                refine Ps.blk_ret ?_
                refine Ps.thn_ret ?_
                -- leaf 14 (ret)
                refine Ps.finL rfl rfl rfl ?_
                refine congrArg (fun n => PV.lit (.int .i64 n)) ?_
                first
                  | (unfold chkChart; rw [if_pos (by simp at hc; omega)]; done)
                  | (rw [if_pos (by omega)] at hjc; exact chk_err h200 hjc (by decide))
                  | (rw [if_pos (by simpa using hc)] at hjc; exact chk_err h200 hjc (by decide))
                  | (obtain ⟨m, hm⟩ := befA_some (l := l) (show 0 < j by omega) hj
                     rw [hm] at hc hjc
                     rw [if_pos (by simpa using hc)] at hjc; exact chk_err h200 hjc (by decide))
                  | (refine chk_two h200 hA ?_
                     rw [← hic]
                     first
                       | (have hn : find l y.parent = none := by simpa using hc
                          rw [hn]; done)
                       | (rw [if_pos (by rw [hb] at hc; simpa using hc)]; done)
                       | (rw [if_pos (by simp at hc; omega)]; done)
                       | (rw [List.drop_eq_nil_of_le (by simp at hc; omega), chkP]; done))
              · try replace hc := dc hc
                refine Ps.skip ?_
                refine Ps.blk ?_
                refine Ps.thn ?_
                refine Ps.region rfl ?_
                refine Rs.add rfl rfl rfl (by first | exact W_i64s (by omega) | exact W_i64 (by omega) (by omega) | rfl) ?_
                refine Rs.move rfl rfl ?_
                refine Rs.nil ?_
                -- leaf 15 (round2)
                refine Ps.round (i + 1) ⟨hlt2, ?_⟩ (by show l.length - (i + 1) < l.length - i; omega) ⟨rfl, trivial⟩ (by repeat' first | exact HasL.nil | refine HasL.cons rfl ?_) (List.nil_sublist _)
                rw [← hic]
                first
                  | (rw [if_pos (by simpa using hc)]; done)
                  | (rw [if_neg (by simp at hc; omega)]; done)
      · try replace hc := dc hc
        refine Ps.exit ?_
        refine Ps.thn_exit ?_
        refine Ps.rnd_exit ?_
        refine Ps.blk_here ?_
        refine Ps.thn ?_
        refine Ps.seq ?_
        refine Ps.region rfl ?_
        refine Rs.assign (p := .lit _) rfl rfl ?_
        refine Rs.nil ?_
        refine Ps.thn ?_
        refine Ps.ret ?_
        -- leaf 16 (ret)
        refine Ps.finL rfl rfl rfl ?_
        refine congrArg (fun n => PV.lit (.int .i64 n)) ?_
        first
          | (unfold chkChart; rw [if_pos (by simp at hc; omega)]; done)
          | (rw [if_pos (by omega)] at hjc; exact chk_err h200 hjc (by decide))
          | (rw [if_pos (by simpa using hc)] at hjc; exact chk_err h200 hjc (by decide))
          | (obtain ⟨m, hm⟩ := befA_some (l := l) (show 0 < j by omega) hj
             rw [hm] at hc hjc
             rw [if_pos (by simpa using hc)] at hjc; exact chk_err h200 hjc (by decide))
          | (refine chk_two h200 hA ?_
             rw [← hic]
             first
               | (have hn : find l y.parent = none := by simpa using hc
                  rw [hn]; done)
               | (rw [if_pos (by rw [hb] at hc; simpa using hc)]; done)
               | (rw [if_pos (by simp at hc; omega)]; done)
               | (rw [List.drop_eq_nil_of_le (by simp at hc; omega), chkP]; done))
end Go.Proofs.YtddaogebacigbaaGreatDoor.RV.T
end
section
open Go Go.Proofs.YtddaogebacigbaaGreatDoor.RV Go.Proofs.YtddaogebacigbaaGreatDoor.XA.Awk Go.Proofs.YtddaogebacigbaaGreatDoor.RV.ChartMath Go.Proofs
namespace Go.Proofs.YtddaogebacigbaaGreatDoor.RV.T
set_option maxRecDepth 100000
set_option linter.unusedVariables false
set_option linter.unusedSimpArgs false
variable {spc : Sp}
theorem codeU_ok (n : Int) : Fn (cfg spc) 70 [u16P n] (· = .lit (.bool (decide (1 ≤ n ∧ n ≤ 999)))) := by
  refine Fn.go Tryz.func70 (L := [(0, _)]) rfl rfl rfl (by first | rfl | (simp [deepL, deepB, *]; done) | (simp [deepL, deepB, *]; rfl)) rfl ?_
  refine Ps.seq ?_
  refine Ps.region rfl ?_
  refine Rs.assign (p := .lit _) rfl rfl ?_
  refine Rs.nil ?_
  refine Ps.thn ?_
  refine Ps.seq ?_
  refine Ps.region rfl ?_
  refine Rs.move rfl rfl ?_
  refine Rs.binB rfl rfl rfl rfl rfl rfl ?_
  refine Rs.move rfl rfl ?_
  refine Rs.guard1 (w' := false) rfl rfl rfl (fun hg => ?_) (fun hg => ?_)
  · try replace hg := dc hg
    refine Rs.move rfl rfl ?_
    refine Rs.guardT rfl ?_
    refine Rs.binB rfl rfl rfl rfl rfl rfl ?_
    refine Rs.pickT (q := .lit _) rfl rfl rfl rfl ?_
    refine Rs.assign rfl rfl ?_
    refine Rs.nil ?_
    refine Ps.thn ?_
    refine Ps.ret ?_
    -- leaf 1 (ret)
    exact Ps.finL rfl rfl rfl (by simp_all [one]; try omega)
  · try replace hg := dc hg
    refine Rs.guardF1 rfl rfl rfl ?_
    refine Rs.pickF (q := .lit _) rfl rfl rfl rfl ?_
    refine Rs.assign rfl rfl ?_
    refine Rs.nil ?_
    refine Ps.thn ?_
    refine Ps.ret ?_
    -- leaf 2 (ret)
    exact Ps.finL rfl rfl rfl (by simp_all [one]; try omega)
def chkU : Option Int → List Int → Int
  | _, [] => 0
  | p, x :: xs => if ¬ (1 ≤ x ∧ x ≤ 999) then 5 else if p.any (fun q => decide (x ≤ q)) then 6 else chkU (some x) xs
def chkUnits (l : List Int) : Int := if l.length > 40 then 2 else chkU none l
def before (u : List Int) : Nat → Option Int
  | 0 => none
  | j + 1 => u[j]?
theorem before_lt {u : List Int} {j : Nat} {x : Int} (hj : j < u.length) (ho : ∀ (h : 0 < j) (y : Int), u[j-1]? = some y → ¬ x ≤ y) : (before u j).any (fun q => decide (x ≤ q)) = false := by
  cases j with
  | zero => rfl
  | succ j =>
    have := ho (by omega) u[j] (List.getElem?_eq_getElem (by omega))
    simp only [before, List.getElem?_eq_getElem (show j < u.length by omega)]
    simpa using this
theorem before_ge {u : List Int} {j : Nat} {x y : Int} (h : 0 < j) (hy : u[j-1]? = some y) (ho : x ≤ y) : (before u j).any (fun q => decide (x ≤ q)) = true := by
  cases j with
  | zero => omega
  | succ j =>
    have hy : u[j]? = some y := hy
    simp only [before, hy]
    simpa using ho
theorem unitsCheck_ok (u : List Int) (p : PV) (hp : IsSl 1 (u.map u16P) p) (hu : u.length < 1000000) : Fn (cfg spc) 38 [p] (· = .lit (.int .i64 (chkUnits u))) := by
  refine Fn.go Tryz.func38 (L := [(0, _)]) rfl rfl rfl (by simp [deepL, hp.deep, deepB]) rfl ?_
  refine Ps.seq ?_
  refine Ps.region rfl ?_
  refine Rs.assign (p := .lit _) rfl rfl ?_
  refine Rs.nil ?_
  refine Ps.thn ?_
  refine Ps.seq ?_
  refine Ps.seq ?_
  refine Ps.region rfl ?_
  refine Rs.move rfl rfl ?_
  first | refine Rs.lenD rfl rfl rfl rfl ?_ | refine Rs.lenO rfl rfl rfl rfl ?_ | refine Rs.lenI rfl rfl rfl rfl ?_ | refine Rs.lenA rfl rfl rfl rfl (by assumption) ?_ | refine Rs.lenS rfl rfl rfl rfl (by assumption) ?_
  refine Rs.binB rfl rfl rfl rfl rfl rfl ?_
  refine Rs.nil ?_
  refine Ps.thn ?_
  refine Ps.if rfl (fun hc => ?_) (fun hc => ?_)
  · try replace hc := dc hc
    refine Ps.seq ?_
    refine Ps.region rfl ?_
    refine Rs.assign (p := .lit _) rfl rfl ?_
    refine Rs.nil ?_
    refine Ps.thn ?_
    refine Ps.ret ?_
    refine Ps.thn_ret ?_
    -- leaf 1 (ret)
    refine Ps.finL rfl rfl rfl ?_
    refine congrArg (fun n => PV.lit (.int .i64 n)) ?_
    first
      | (unfold chkUnits; rw [if_pos (by simp at hc; omega)]; done)
      | (rw [if_pos (by simpa using hc)] at hjc; exact hjc)
      | (rw [if_pos (by omega)] at hjc; exact hjc)
      | (rw [if_pos (before_ge (by omega) (List.getElem?_eq_getElem (show j - 1 < u.length by omega)) (by omega))] at hjc; exact hjc)
      | (rw [← hjc, List.drop_eq_nil_of_le (by simp at hc; omega), chkU]; done)
  · try replace hc := dc hc
    refine Ps.skip ?_
    refine Ps.thn ?_
    refine Ps.seq ?_
    refine Ps.seq ?_
    refine Ps.region rfl ?_
    refine Rs.move rfl rfl ?_
    first | refine Rs.lenD rfl rfl rfl rfl ?_ | refine Rs.lenO rfl rfl rfl rfl ?_ | refine Rs.lenI rfl rfl rfl rfl ?_ | refine Rs.lenA rfl rfl rfl rfl (by assumption) ?_ | refine Rs.lenS rfl rfl rfl rfl (by assumption) ?_
    refine Rs.move (p := .lit _) rfl rfl ?_
    refine Rs.nil ?_
    refine Ps.thn ?_
    refine Ps.block ?_
    -- loop 1 writes [2, 3, 4, 10, 11, 12, 13, 14, 15, 16, 17, 18, 19, 20, 21, 22, 23, 24, 25, 26, 27, 28, 29, 30, 31]
    have h40 : chkUnits u = chkU none u := by unfold chkUnits; rw [if_neg]; simp at hc; omega
    refine Ps.loop (J := Nat) ⟨fun j => j ≤ u.length ∧ chkU (before u j) (u.drop j) = chkUnits u, fun j => [(10, .lit (.int .i64 j))], fun _ => [], fun j => u.length - j⟩ [2, 3, 4, 10, 11, 12, 13, 14, 15, 16, 17, 18, 19, 20, 21, 22, 23, 24, 25, 26, 27, 28, 29, 30, 31] [(9, _), (8, _), (7, _), (6, _), (5, _), (0, _)] 0 rfl ⟨Nat.zero_le _, h40.symm⟩ ⟨rfl, trivial⟩ (List.nil_sublist _) (fun j hj => ?_)
    obtain ⟨hj, hjc⟩ : j ≤ u.length ∧ chkU (before u j) (u.drop j) = chkUnits u := hj
    dsimp only [List.cons_append, List.nil_append]
    refine Ps.seq ?_
    refine Ps.region rfl ?_
    refine Rs.binB rfl rfl rfl rfl rfl rfl ?_
    refine Rs.nil ?_
    refine Ps.thn ?_
    refine Ps.seq ?_
    refine Ps.if rfl (fun hc => ?_) (fun hc => ?_)
    · try replace hc := dc hc
      refine Ps.skip ?_
      refine Ps.thn ?_
      refine Ps.seq ?_
      refine Ps.block ?_
      refine Ps.seq ?_
      have hlt : j < u.length := by simp at hc; omega
      obtain ⟨x, hx⟩ := at_lt hlt
      rw [drop_at hx, chkU] at hjc
      refine Ps.region rfl ?_
      refine Rs.move rfl rfl ?_
      first | refine Rs.indexD (lc := [_]) rfl rfl rfl rfl rfl rfl (map_at hx) rfl ?_ | refine Rs.indexS (lc := [_]) rfl rfl rfl rfl rfl (by assumption) rfl (map_at hx) rfl ?_
      first | refine Rs.loadR rfl rfl rfl rfl ?_ | refine Rs.loadP 0 rfl rfl rfl rfl rfl ?_ | refine Rs.loadP 1 rfl rfl rfl rfl rfl ?_ | refine Rs.loadP 2 rfl rfl rfl rfl rfl ?_ | refine Rs.loadP 3 rfl rfl rfl rfl rfl ?_
      refine Rs.assign rfl rfl ?_
      refine Rs.assign rfl rfl ?_
      refine Rs.nil ?_
      refine Ps.thn ?_
      refine Ps.block ?_
      refine Ps.seq ?_
      refine Ps.region rfl ?_
      refine Rs.move rfl rfl ?_
      refine Rs.call0 rfl rfl rfl (codeU_ok _) (fun p17 hp => ?_)
      obtain rfl := hp
      refine Rs.not rfl rfl ?_
      refine Rs.assign rfl rfl ?_
      refine Rs.nil ?_
      refine Ps.thn ?_
      refine Ps.if rfl (fun hc => ?_) (fun hc => ?_)
      · try replace hc := dc hc
        refine Ps.seq ?_
        refine Ps.region rfl ?_
        refine Rs.assign (p := .lit _) rfl rfl ?_
        refine Rs.nil ?_
        refine Ps.thn ?_
        refine Ps.ret ?_
        refine Ps.blk_ret ?_
        refine Ps.blk_ret ?_
        refine Ps.thn_ret ?_
        refine Ps.rnd_ret ?_
        refine Ps.blk_ret ?_
        refine Ps.thn_ret ?_
        -- leaf 2 (ret)
        refine Ps.finL rfl rfl rfl ?_
        refine congrArg (fun n => PV.lit (.int .i64 n)) ?_
        first
          | (unfold chkUnits; rw [if_pos (by simp at hc; omega)]; done)
          | (rw [if_pos (by simpa using hc)] at hjc; exact hjc)
          | (rw [if_pos (by omega)] at hjc; exact hjc)
          | (rw [if_pos (before_ge (by omega) (List.getElem?_eq_getElem (show j - 1 < u.length by omega)) (by omega))] at hjc; exact hjc)
          | (rw [← hjc, List.drop_eq_nil_of_le (by simp at hc; omega), chkU]; done)
      · try replace hc := dc hc
        refine Ps.seq ?_
        rw [if_neg (by simpa using hc)] at hjc
        refine Ps.region rfl ?_
        refine Rs.move rfl rfl ?_
        refine Rs.binB rfl rfl rfl rfl rfl rfl ?_
        refine Rs.move rfl rfl ?_
        refine Rs.guard1 (w' := false) rfl rfl rfl (fun hg => ?_) (fun hg => ?_)
        · try replace hg := dc hg
          refine Rs.move rfl rfl ?_
          refine Rs.guardT rfl ?_
          refine Rs.move rfl rfl ?_
          refine Rs.guardT rfl ?_
          refine Rs.sub rfl rfl rfl (by first | exact W_i64p (by omega) (by omega) | exact W_i64 (by omega) (by omega) | rfl) ?_
          refine Rs.guardT rfl ?_
          first | refine Rs.indexD (lc := [_]) rfl rfl rfl rfl rfl (by omega) (map_at (show u[j-1]? = some (u[j-1]'(by omega)) from List.getElem?_eq_getElem _)) rfl ?_ | refine Rs.indexS (lc := [_]) rfl rfl rfl rfl rfl (by assumption) (by omega) (map_at (show u[j-1]? = some (u[j-1]'(by omega)) from List.getElem?_eq_getElem _)) rfl ?_
          refine Rs.guardT rfl ?_
          first | refine Rs.loadR rfl rfl rfl rfl ?_ | refine Rs.loadP 0 rfl rfl rfl rfl rfl ?_ | refine Rs.loadP 1 rfl rfl rfl rfl rfl ?_ | refine Rs.loadP 2 rfl rfl rfl rfl rfl ?_ | refine Rs.loadP 3 rfl rfl rfl rfl rfl ?_
          refine Rs.guardT rfl ?_
          refine Rs.move rfl rfl ?_
          refine Rs.guardT rfl ?_
          refine Rs.binB rfl rfl rfl rfl rfl rfl ?_
          refine Rs.pickT (q := .lit _) rfl rfl rfl rfl ?_
          refine Rs.assign rfl rfl ?_
          refine Rs.nil ?_
          refine Ps.thn ?_
          refine Ps.if rfl (fun hc => ?_) (fun hc => ?_)
          · try replace hc := dc hc
            refine Ps.seq ?_
            refine Ps.region rfl ?_
            refine Rs.assign (p := .lit _) rfl rfl ?_
            refine Rs.nil ?_
            refine Ps.thn ?_
            refine Ps.ret ?_
            refine Ps.blk_ret ?_
            refine Ps.blk_ret ?_
            refine Ps.thn_ret ?_
            refine Ps.rnd_ret ?_
            refine Ps.blk_ret ?_
            refine Ps.thn_ret ?_
            -- leaf 3 (ret)
            refine Ps.finL rfl rfl rfl ?_
            refine congrArg (fun n => PV.lit (.int .i64 n)) ?_
            first
              | (unfold chkUnits; rw [if_pos (by simp at hc; omega)]; done)
              | (rw [if_pos (by simpa using hc)] at hjc; exact hjc)
              | (rw [if_pos (by omega)] at hjc; exact hjc)
              | (rw [if_pos (before_ge (by omega) (List.getElem?_eq_getElem (show j - 1 < u.length by omega)) (by omega))] at hjc; exact hjc)
              | (rw [← hjc, List.drop_eq_nil_of_le (by simp at hc; omega), chkU]; done)
          · try replace hc := dc hc
            refine Ps.skip ?_
            refine Ps.blk ?_
            refine Ps.blk ?_
            refine Ps.thn ?_
            refine Ps.region rfl ?_
            refine Rs.add rfl rfl rfl (by first | exact W_i64s (by omega) | exact W_i64 (by omega) (by omega) | rfl) ?_
            refine Rs.move rfl rfl ?_
            refine Rs.nil ?_
            -- leaf 4 (round1)
            have ho : (before u j).any (fun q => decide (x ≤ q)) = false := before_lt hlt (fun h y hy => by
              first
                | (simp at hg; omega)
                | (rw [List.getElem?_eq_getElem (by omega)] at hy; cases hy; simp at hc; omega))
            refine Ps.round (j + 1) ⟨hlt, ?_⟩ (by show u.length - (j + 1) < u.length - j; omega) ⟨rfl, trivial⟩ (by repeat' first | exact HasL.nil | refine HasL.cons rfl ?_) (List.nil_sublist _)
            show chkU (u[j]?) _ = _
            rw [hx, ← hjc, if_neg (by rw [ho]; decide)]
        · try replace hg := dc hg
          refine Rs.guardF1 rfl rfl rfl ?_
          refine Rs.guardF1 rfl rfl rfl ?_
          refine Rs.guardF1 rfl rfl rfl ?_
          refine Rs.guardF1 rfl rfl rfl ?_
          refine Rs.guardF1 rfl rfl rfl ?_
          refine Rs.guardF1 rfl rfl rfl ?_
          refine Rs.pickF (q := .lit _) rfl rfl rfl rfl ?_
          refine Rs.assign rfl rfl ?_
          refine Rs.nil ?_
          refine Ps.thn ?_
          refine Ps.ifF rfl ?_
          refine Ps.skip ?_
          refine Ps.blk ?_
          refine Ps.blk ?_
          refine Ps.thn ?_
          refine Ps.region rfl ?_
          refine Rs.add rfl rfl rfl (by first | exact W_i64s (by omega) | exact W_i64 (by omega) (by omega) | rfl) ?_
          refine Rs.move rfl rfl ?_
          refine Rs.nil ?_
          -- leaf 5 (round1)
          have ho : (before u j).any (fun q => decide (x ≤ q)) = false := before_lt hlt (fun h y hy => by
            first
              | (simp at hg; omega)
              | (rw [List.getElem?_eq_getElem (by omega)] at hy; cases hy; simp at hc; omega))
          refine Ps.round (j + 1) ⟨hlt, ?_⟩ (by show u.length - (j + 1) < u.length - j; omega) ⟨rfl, trivial⟩ (by repeat' first | exact HasL.nil | refine HasL.cons rfl ?_) (List.nil_sublist _)
          show chkU (u[j]?) _ = _
          rw [hx, ← hjc, if_neg (by rw [ho]; decide)]
    · try replace hc := dc hc
      refine Ps.exit ?_
      refine Ps.thn_exit ?_
      refine Ps.rnd_exit ?_
      refine Ps.blk_here ?_
      refine Ps.thn ?_
      refine Ps.seq ?_
      refine Ps.region rfl ?_
      refine Rs.assign (p := .lit _) rfl rfl ?_
      refine Rs.nil ?_
      refine Ps.thn ?_
      refine Ps.ret ?_
      -- leaf 6 (ret)
      refine Ps.finL rfl rfl rfl ?_
      refine congrArg (fun n => PV.lit (.int .i64 n)) ?_
      first
        | (unfold chkUnits; rw [if_pos (by simp at hc; omega)]; done)
        | (rw [if_pos (by simpa using hc)] at hjc; exact hjc)
        | (rw [if_pos (by omega)] at hjc; exact hjc)
        | (rw [if_pos (before_ge (by omega) (List.getElem?_eq_getElem (show j - 1 < u.length by omega)) (by omega))] at hjc; exact hjc)
        | (rw [← hjc, List.drop_eq_nil_of_le (by simp at hc; omega), chkU]; done)
end Go.Proofs.YtddaogebacigbaaGreatDoor.RV.T
end
section
open Go Go.Proofs.YtddaogebacigbaaGreatDoor.RV Go.Proofs.YtddaogebacigbaaGreatDoor.XA.Awk Go.Proofs.YtddaogebacigbaaGreatDoor.RV.ChartMath Go.Proofs
namespace Go.Proofs.YtddaogebacigbaaGreatDoor.RV.T
set_option maxRecDepth 100000
set_option linter.unusedVariables false
set_option linter.unusedSimpArgs false
variable {spc : Sp}
def aheadI (y : Int) : Int := 365 * (y - 1) + (y - 1) / 4 - (y - 1) / 100 + (y - 1) / 400 - 719162
theorem ahead_ok (y : Int) (h : 1 ≤ y ∧ y ≤ 100000) : Fn (cfg spc) 92 [i64P y] (· = i64P (aheadI y)) := by
  refine Fn.go Tryz.func92 (L := [(0, _)]) rfl rfl rfl (by first | rfl | (simp [deepL, deepB, *]; done) | (simp [deepL, deepB, *]; rfl)) rfl ?_
  refine Ps.seq ?_
  refine Ps.region rfl ?_
  refine Rs.assign (p := .lit _) rfl rfl ?_
  refine Rs.nil ?_
  refine Ps.thn ?_
  refine Ps.seq ?_
  refine Ps.region rfl ?_
  refine Rs.move rfl rfl ?_
  refine Rs.sub rfl rfl rfl (by first | exact W_i64p (by omega) (by omega) | exact W_i64 (by omega) (by omega) | rfl) ?_
  refine Rs.assign rfl rfl ?_
  refine Rs.nil ?_
  refine Ps.thn ?_
  refine Ps.seq ?_
  refine Ps.region rfl ?_
  refine Rs.move rfl rfl ?_
  refine Rs.mul rfl rfl rfl (by first | exact W_i64 (by omega) (by omega) | rfl) ?_
  refine Rs.move rfl rfl ?_
  refine Rs.quo rfl rfl rfl (by omega) (by first | exact Q_i64 (by omega) (by omega) (by omega) | rfl) ?_
  refine Rs.add rfl rfl rfl (by first | exact W_i64s (by omega) | exact W_i64 (by omega) (by omega) | rfl) ?_
  refine Rs.move rfl rfl ?_
  refine Rs.quo rfl rfl rfl (by omega) (by first | exact Q_i64 (by omega) (by omega) (by omega) | rfl) ?_
  refine Rs.sub rfl rfl rfl (by first | exact W_i64p (by omega) (by omega) | exact W_i64 (by omega) (by omega) | rfl) ?_
  refine Rs.move rfl rfl ?_
  refine Rs.quo rfl rfl rfl (by omega) (by first | exact Q_i64 (by omega) (by omega) (by omega) | rfl) ?_
  refine Rs.add rfl rfl rfl (by first | exact W_i64s (by omega) | exact W_i64 (by omega) (by omega) | rfl) ?_
  refine Rs.sub rfl rfl rfl (by first | exact W_i64p (by omega) (by omega) | exact W_i64 (by omega) (by omega) | rfl) ?_
  refine Rs.assign rfl rfl ?_
  refine Rs.nil ?_
  refine Ps.thn ?_
  refine Ps.ret ?_
  -- leaf 1 (ret)
  refine Ps.finP (l := [_]) rfl (by refine ResR.tmp rfl ?_; exact ResR.nil) (by first | rfl | simp [plainP, plainC, cp_lit, cp_dsl, *]) rfl ?_
  rfl
def leapB (y : Int) : Bool := decide (y % 4 = 0) && (decide (y % 100 ≠ 0) || decide (y % 400 = 0))
theorem leap_ok (y : Int) (h : 1 ≤ y ∧ y ≤ 100000) : Fn (cfg spc) 118 [i64P y] (· = boolP (leapB y)) := by
  refine Fn.go Tryz.func118 (L := [(0, _)]) rfl rfl rfl (by first | rfl | (simp [deepL, deepB, *]; done) | (simp [deepL, deepB, *]; rfl)) rfl ?_
  refine Ps.seq ?_
  refine Ps.region rfl ?_
  refine Rs.assign (p := .lit _) rfl rfl ?_
  refine Rs.nil ?_
  refine Ps.thn ?_
  refine Ps.seq ?_
  refine Ps.region rfl ?_
  refine Rs.move rfl rfl ?_
  refine Rs.rem rfl rfl rfl (by omega) (by first | exact Int.tmod_eq_emod_of_nonneg (by omega) | rfl) ?_
  refine Rs.binB rfl rfl rfl rfl rfl rfl ?_
  refine Rs.move rfl rfl ?_
  refine Rs.guard1 (w' := false) rfl rfl rfl (fun hg => ?_) (fun hg => ?_)
  · try replace hg := dc hg
    refine Rs.move rfl rfl ?_
    refine Rs.guardT rfl ?_
    refine Rs.rem rfl rfl rfl (by omega) (by first | exact Int.tmod_eq_emod_of_nonneg (by omega) | rfl) ?_
    refine Rs.guardT rfl ?_
    refine Rs.binB rfl rfl rfl rfl rfl rfl ?_
    refine Rs.guardT rfl ?_
    refine Rs.move rfl rfl ?_
    refine Rs.guard1 (w' := true) rfl rfl rfl (fun hg => ?_) (fun hg => ?_)
    · try replace hg := dc hg
      refine Rs.move rfl rfl ?_
      refine Rs.guardT rfl ?_
      refine Rs.rem rfl rfl rfl (by omega) (by first | exact Int.tmod_eq_emod_of_nonneg (by omega) | rfl) ?_
      refine Rs.guardT rfl ?_
      refine Rs.binB rfl rfl rfl rfl rfl rfl ?_
      refine Rs.guardT rfl ?_
      refine Rs.pickF (p := .lit _) rfl rfl rfl rfl ?_
      refine Rs.pickT (q := .lit _) rfl rfl rfl rfl ?_
      refine Rs.assign rfl rfl ?_
      refine Rs.nil ?_
      refine Ps.thn ?_
      refine Ps.ret ?_
      -- leaf 1 (ret)
      refine Ps.finL rfl rfl rfl ?_
      show boolP _ = boolP _
      congr 1
      simp_all [leapB] <;> rfl
    · try replace hg := dc hg
      refine Rs.guardF1 rfl rfl rfl ?_
      refine Rs.guardF1 rfl rfl rfl ?_
      refine Rs.guardT rfl ?_
      refine Rs.pickT (p := .lit _) rfl rfl rfl rfl ?_
      refine Rs.pickT (q := .lit _) rfl rfl rfl rfl ?_
      refine Rs.assign rfl rfl ?_
      refine Rs.nil ?_
      refine Ps.thn ?_
      refine Ps.ret ?_
      -- leaf 2 (ret)
      refine Ps.finL rfl rfl rfl ?_
      show boolP _ = boolP _
      congr 1
      simp_all [leapB] <;> rfl
  · try replace hg := dc hg
    refine Rs.guardF1 rfl rfl rfl ?_
    refine Rs.guardF1 rfl rfl rfl ?_
    refine Rs.guardF1 rfl rfl rfl ?_
    refine Rs.guardU1 rfl rfl ?_
    refine Rs.guardU1 rfl rfl ?_
    refine Rs.guardU1 rfl rfl ?_
    refine Rs.guardF1 rfl rfl rfl ?_
    refine Rs.pickF (q := .lit _) rfl rfl rfl rfl ?_
    refine Rs.assign rfl rfl ?_
    refine Rs.nil ?_
    refine Ps.thn ?_
    refine Ps.ret ?_
    -- leaf 3 (ret)
    refine Ps.finL rfl rfl rfl ?_
    show boolP _ = boolP _
    congr 1
    simp_all [leapB] <;> rfl
def monthsI : List Int := [31,28,31,30,31,30,31,31,30,31,30,31]
def longI (y m : Int) : Int := if m = 2 ∧ leapB y = true then 29 else monthsI.getD (m - 1).toNat 0
theorem longI_rng {y m : Int} (hm : 1 ≤ m ∧ m ≤ 12) : 28 ≤ longI y m ∧ longI y m ≤ 31 := by
  unfold longI
  split
  · decide
  · obtain rfl | rfl | rfl | rfl | rfl | rfl | rfl | rfl | rfl | rfl | rfl | rfl : m = 1 ∨ m = 2 ∨ m = 3 ∨ m = 4 ∨ m = 5 ∨ m = 6 ∨ m = 7 ∨ m = 8 ∨ m = 9 ∨ m = 10 ∨ m = 11 ∨ m = 12 := by omega
    all_goals decide
theorem long_ok (y m : Int) (h : 1 ≤ y ∧ y ≤ 100000) (hm : 1 ≤ m ∧ m ≤ 12) : Fn (cfg spc) 93 [i64P y, i64P m] (· = i64P (longI y m)) := by
  refine Fn.go Tryz.func93 (L := [(0, _), (1, _)]) rfl rfl rfl (by first | rfl | (simp [deepL, deepB, *]; done) | (simp [deepL, deepB, *]; rfl)) rfl ?_
  refine Ps.seq ?_
  refine Ps.region rfl ?_
  refine Rs.assign (p := .lit _) rfl rfl ?_
  refine Rs.nil ?_
  refine Ps.thn ?_
  refine Ps.seq ?_
  refine Ps.seq ?_
  refine Ps.region rfl ?_
  refine Rs.move rfl rfl ?_
  refine Rs.binB rfl rfl rfl rfl rfl rfl ?_
  refine Rs.move rfl rfl ?_
  refine Rs.guard1 (w' := false) rfl rfl rfl (fun hg => ?_) (fun hg => ?_)
  · try replace hg := dc hg
    refine Rs.move rfl rfl ?_
    refine Rs.guardT rfl ?_
    refine Rs.call0 rfl rfl rfl (leap_ok y h) (fun p9 hp => ?_)
    obtain rfl := hp
    refine Rs.pickT (q := .lit _) rfl rfl rfl rfl ?_
    refine Rs.nil ?_
    refine Ps.thn ?_
    refine Ps.if rfl (fun hc => ?_) (fun hc => ?_)
    · try replace hc := dc hc
      refine Ps.seq ?_
      refine Ps.region rfl ?_
      refine Rs.assign (p := .lit _) rfl rfl ?_
      refine Rs.nil ?_
      refine Ps.thn ?_
      refine Ps.ret ?_
      refine Ps.thn_ret ?_
      -- leaf 1 (ret)
      refine Ps.finL rfl rfl rfl ?_
      refine congrArg (fun n => PV.lit (.int .i64 n)) ?_
      unfold longI
      first
        | (rw [if_pos ⟨by omega, hc⟩]; done)
        | (rw [if_neg (by rintro ⟨h1, h2⟩; simp_all)]; done)
    · try replace hc := dc hc
      refine Ps.skip ?_
      refine Ps.thn ?_
      refine Ps.seq ?_
      refine Ps.region rfl ?_
      refine Rs.move rfl rfl ?_
      refine Rs.sub rfl rfl rfl (by first | exact W_i64p (by omega) (by omega) | exact W_i64 (by omega) (by omega) | rfl) ?_
      refine Rs.indexA rfl rfl rfl rfl rfl (show m - 1 = (((m - 1).toNat : Nat) : Int) by omega) (by omega) ?_
      refine Rs.loadD (p := i64P (monthsI.getD (m - 1).toNat 0)) rfl rfl rfl ?_ ?_
      · obtain rfl | rfl | rfl | rfl | rfl | rfl | rfl | rfl | rfl | rfl | rfl | rfl : m = 1 ∨ m = 2 ∨ m = 3 ∨ m = 4 ∨ m = 5 ∨ m = 6 ∨ m = 7 ∨ m = 8 ∨ m = 9 ∨ m = 10 ∨ m = 11 ∨ m = 12 := by omega
        all_goals rfl
      refine Rs.assign rfl rfl ?_
      refine Rs.nil ?_
      refine Ps.thn ?_
      refine Ps.ret ?_
      -- leaf 2 (ret)
      refine Ps.finL rfl rfl rfl ?_
      refine congrArg (fun n => PV.lit (.int .i64 n)) ?_
      unfold longI
      first
        | (rw [if_pos ⟨by omega, hc⟩]; done)
        | (rw [if_neg (by rintro ⟨h1, h2⟩; simp_all)]; done)
  · try replace hg := dc hg
    refine Rs.guardF1 rfl rfl rfl ?_
    refine Rs.pickF (q := .lit _) rfl rfl rfl rfl ?_
    refine Rs.nil ?_
    refine Ps.thn ?_
    refine Ps.ifF rfl ?_
    refine Ps.skip ?_
    refine Ps.thn ?_
    refine Ps.seq ?_
    refine Ps.region rfl ?_
    refine Rs.move rfl rfl ?_
    refine Rs.sub rfl rfl rfl (by first | exact W_i64p (by omega) (by omega) | exact W_i64 (by omega) (by omega) | rfl) ?_
    refine Rs.indexA rfl rfl rfl rfl rfl (show m - 1 = (((m - 1).toNat : Nat) : Int) by omega) (by omega) ?_
    refine Rs.loadD (p := i64P (monthsI.getD (m - 1).toNat 0)) rfl rfl rfl ?_ ?_
    · obtain rfl | rfl | rfl | rfl | rfl | rfl | rfl | rfl | rfl | rfl | rfl | rfl : m = 1 ∨ m = 2 ∨ m = 3 ∨ m = 4 ∨ m = 5 ∨ m = 6 ∨ m = 7 ∨ m = 8 ∨ m = 9 ∨ m = 10 ∨ m = 11 ∨ m = 12 := by omega
      all_goals rfl
    refine Rs.assign rfl rfl ?_
    refine Rs.nil ?_
    refine Ps.thn ?_
    refine Ps.ret ?_
    -- leaf 3 (ret)
    refine Ps.finL rfl rfl rfl ?_
    refine congrArg (fun n => PV.lit (.int .i64 n)) ?_
    unfold longI
    first
      | (rw [if_pos ⟨by omega, hc⟩]; done)
      | (rw [if_neg (by rintro ⟨h1, h2⟩; simp_all)]; done)
def restI (y : Int) : Nat → Int
  | 0 => 0
  | k + 1 => longI y (12 - k) + restI y k
def good (n : Int) : Prop := -719162 ≤ n ∧ n < 2932897
theorem rest12 (y : Int) : restI y 12 = if leapB y = true then 366 else 365 := by
  by_cases h : leapB y = true
  · rw [if_pos h]; simp only [restI, longI, h]; decide
  · rw [if_neg h]; simp only [restI, longI, h]; decide
theorem year_len {y : Int} (h : 1 ≤ y) : aheadI (y + 1) - aheadI y = restI y 12 := by
  rw [rest12]
  unfold aheadI leapB
  simp only [Bool.and_eq_true, Bool.or_eq_true, decide_eq_true_eq]
  split <;> omega
theorem tdiv_rng {n : Int} (h : good n) : -1966 ≤ n.tdiv 366 ∧ n.tdiv 366 ≤ 8014 := by
  unfold good at h
  rcases Int.le_total 0 n with h0 | h0
  · rw [Int.tdiv_eq_ediv_of_nonneg h0]; omega
  · obtain ⟨k, rfl⟩ : ∃ k, n = -k := ⟨-n, by omega⟩
    rw [Int.neg_tdiv, Int.tdiv_eq_ediv_of_nonneg (by omega)]; omega
structure DateOk (n y : Int) (k : Nat) (d : Int) : Prop where
  yr : 1 ≤ y ∧ y ≤ 9999
  mo : 1 ≤ k ∧ k ≤ 12
  dy : 1 ≤ d ∧ d ≤ longI y (13 - k)
  eq : n = aheadI y + (restI y 12 - restI y k) + (d - 1)
theorem date_ok (n : Int) (h : -2147483648 ≤ n ∧ n ≤ 2147483647) : Fn (cfg spc) 73 [i32P n] (fun q => (¬ good n ∧ q = .tup [i64P 0, i64P 0, i64P 0]) ∨ (good n ∧ ∃ y k d, DateOk n y k d ∧ q = .tup [i64P y, i64P (13 - (k : Int)), i64P d])) := by
  refine Fn.go Tryz.func73 (L := [(0, _)]) rfl rfl rfl (by first | rfl | (simp [deepL, deepB, *]; done) | (simp [deepL, deepB, *]; rfl)) rfl ?_
  refine Ps.seq ?_
  refine Ps.region rfl ?_
  refine Rs.assign (p := .lit _) rfl rfl ?_
  refine Rs.assign (p := .lit _) rfl rfl ?_
  refine Rs.assign (p := .lit _) rfl rfl ?_
  refine Rs.nil ?_
  refine Ps.thn ?_
  refine Ps.seq ?_
  refine Ps.seq ?_
  refine Ps.region rfl ?_
  refine Rs.move rfl rfl ?_
  refine Rs.call0 rfl rfl rfl (ahead_ok 1 (by omega)) (fun p6 hp => ?_)
  obtain rfl := hp
  rw [show aheadI 1 = -719162 by decide]
  refine Rs.convI rfl rfl ⟨_, rfl⟩ rfl rfl (by first | exact W_i32 (by omega) (by omega) | rfl) ?_
  refine Rs.binB rfl rfl rfl rfl rfl rfl ?_
  refine Rs.move rfl rfl ?_
  refine Rs.guard1 (w' := true) rfl rfl rfl (fun hg => ?_) (fun hg => ?_)
  · try replace hg := dc hg
    refine Rs.move rfl rfl ?_
    refine Rs.guardT rfl ?_
    refine Rs.call0 rfl rfl rfl (ahead_ok 10000 (by omega)) (fun p11 hp => ?_)
    obtain rfl := hp
    rw [show aheadI 10000 = 2932897 by decide]
    refine Rs.guardT rfl ?_
    refine Rs.convI rfl rfl ⟨_, rfl⟩ rfl rfl (by first | exact W_i32 (by omega) (by omega) | rfl) ?_
    refine Rs.guardT rfl ?_
    refine Rs.binB rfl rfl rfl rfl rfl rfl ?_
    refine Rs.pickF (p := .lit _) rfl rfl rfl rfl ?_
    refine Rs.nil ?_
    refine Ps.thn ?_
    refine Ps.if rfl (fun hc => ?_) (fun hc => ?_)
    · try replace hc := dc hc
      refine Ps.seq ?_
      refine Ps.region rfl ?_
      refine Rs.assign (p := .lit _) rfl rfl ?_
      refine Rs.assign (p := .lit _) rfl rfl ?_
      refine Rs.assign (p := .lit _) rfl rfl ?_
      refine Rs.nil ?_
      refine Ps.thn ?_
      refine Ps.ret ?_
      refine Ps.thn_ret ?_
      -- leaf 1 (ret)
      refine Ps.finP (l := [_, _, _]) rfl (by refine ResR.tmp rfl ?_; refine ResR.tmp rfl ?_; refine ResR.tmp rfl ?_; exact ResR.nil) (by rfl) rfl ?_
      first
        | (refine .inl ⟨by unfold good; omega, rfl⟩; done)
        | (refine .inr ⟨hgd, z, k, d + 1, ⟨hz, hk, ⟨by omega, by omega⟩, by omega⟩, rfl⟩; done)
    · try replace hc := dc hc
      refine Ps.skip ?_
      refine Ps.thn ?_
      refine Ps.seq ?_
      have hgd : good n := by unfold good; simp at hg hc; omega
      have hq := tdiv_rng hgd
      refine Ps.region rfl ?_
      refine Rs.move rfl rfl ?_
      refine Rs.convI rfl rfl ⟨_, rfl⟩ rfl rfl (by first | exact W_i64 (by omega) (by omega) | rfl) ?_
      refine Rs.quo (c := n.tdiv 366) rfl rfl rfl (by omega) (W_i64 (by omega) (by omega)) ?_
      refine Rs.add rfl rfl rfl (by first | exact W_i64s (by omega) | exact W_i64 (by omega) (by omega) | rfl) ?_
      refine Rs.assign rfl rfl ?_
      refine Rs.nil ?_
      refine Ps.thn ?_
      refine Ps.seq ?_
      refine Ps.block ?_
      -- loop 1 writes [2, 19, 20, 21, 22, 23, 24, 25]
      refine Ps.loop (J := Int) ⟨fun y => 1 ≤ y ∧ y ≤ 9999, fun y => [(2, i64P y)], fun _ => [], fun y => y.toNat⟩ [2, 19, 20, 21, 22, 23, 24, 25] [(18, _), (17, _), (16, _), (15, _), (14, _), (13, _), (12, _), (11, _), (10, _), (9, _), (8, _), (7, _), (6, _), (5, _), (4, _), (3, _), (0, _)] (1970 + n.tdiv 366) rfl ⟨by omega, by omega⟩ ⟨rfl, trivial⟩ (List.nil_sublist _) (fun y hy => ?_)
      have hy : 1 ≤ y ∧ y ≤ 9999 := hy
      dsimp only [List.cons_append, List.nil_append]
      refine Ps.seq ?_
      refine Ps.seq ?_
      refine Ps.region rfl ?_
      refine Rs.move rfl rfl ?_
      refine Rs.convI rfl rfl ⟨_, rfl⟩ rfl rfl (by first | exact W_i64 (by omega) (by omega) | rfl) ?_
      refine Rs.move rfl rfl ?_
      refine Rs.call0 rfl rfl rfl (ahead_ok y (by omega)) (fun p22 hp => ?_)
      obtain rfl := hp
      refine Rs.binB rfl rfl rfl rfl rfl rfl ?_
      refine Rs.nil ?_
      refine Ps.thn ?_
      refine Ps.if rfl (fun hc => ?_) (fun hc => ?_)
      · try replace hc := dc hc
        refine Ps.skip ?_
        refine Ps.thn ?_
        refine Ps.block ?_
        refine Ps.region rfl ?_
        refine Rs.move rfl rfl ?_
        refine Rs.sub rfl rfl rfl (by first | exact W_i64p (by omega) (by omega) | exact W_i64 (by omega) (by omega) | rfl) ?_
        refine Rs.assign rfl rfl ?_
        refine Rs.nil ?_
        refine Ps.blk ?_
        -- leaf 2 (round1)
        refine Ps.round (y - 1) ⟨?_, by omega⟩ (by show (y - 1).toNat < y.toNat; omega) ⟨rfl, trivial⟩ (by repeat' first | exact HasL.nil | refine HasL.cons rfl ?_) (List.nil_sublist _)
        rcases Int.lt_or_le 1 y with h1 | h1
        · omega
        · obtain rfl : y = 1 := by omega
          rw [show aheadI 1 = -719162 by decide] at hc
          unfold good at hgd
          omega
      · try replace hc := dc hc
        refine Ps.exit ?_
        refine Ps.thn_exit ?_
        refine Ps.rnd_exit ?_
        refine Ps.blk_here ?_
        refine Ps.thn ?_
        refine Ps.seq ?_
        refine Ps.block ?_
        -- loop 2 writes [2, 26, 27, 28, 29, 30, 31, 32, 33]
        have hay : aheadI y ≤ n := by omega
        refine Ps.loop (J := Int) ⟨fun z => (1 ≤ z ∧ z ≤ 9999) ∧ aheadI z ≤ n, fun y => [(2, i64P y)], fun _ => [], fun y => (10000 - y).toNat⟩ [2, 26, 27, 28, 29, 30, 31, 32, 33] [(23, _), (22, _), (21, _), (20, _), (19, _), (18, _), (17, _), (16, _), (15, _), (14, _), (13, _), (12, _), (11, _), (10, _), (9, _), (8, _), (7, _), (6, _), (5, _), (4, _), (3, _), (0, _)] y rfl ⟨hy, hay⟩ ⟨rfl, trivial⟩ (List.nil_sublist _) (fun z hz => ?_)
        clear hay
        obtain ⟨hz, haz⟩ : (1 ≤ z ∧ z ≤ 9999) ∧ aheadI z ≤ n := hz
        dsimp only [List.cons_append, List.nil_append]
        refine Ps.seq ?_
        refine Ps.seq ?_
        refine Ps.region rfl ?_
        refine Rs.move rfl rfl ?_
        refine Rs.convI rfl rfl ⟨_, rfl⟩ rfl rfl (by first | exact W_i64 (by omega) (by omega) | rfl) ?_
        refine Rs.move rfl rfl ?_
        refine Rs.add rfl rfl rfl (by first | exact W_i64s (by omega) | exact W_i64 (by omega) (by omega) | rfl) ?_
        refine Rs.call0 rfl rfl rfl (ahead_ok (z + 1) (by omega)) (fun p30 hp => ?_)
        obtain rfl := hp
        refine Rs.binB rfl rfl rfl rfl rfl rfl ?_
        refine Rs.nil ?_
        refine Ps.thn ?_
        refine Ps.if rfl (fun hc => ?_) (fun hc => ?_)
        · try replace hc := dc hc
          refine Ps.skip ?_
          refine Ps.thn ?_
          refine Ps.block ?_
          refine Ps.region rfl ?_
          refine Rs.move rfl rfl ?_
          refine Rs.add rfl rfl rfl (by first | exact W_i64s (by omega) | exact W_i64 (by omega) (by omega) | rfl) ?_
          refine Rs.assign rfl rfl ?_
          refine Rs.nil ?_
          refine Ps.blk ?_
          -- leaf 3 (round2)
          refine Ps.round (z + 1) ⟨⟨by omega, ?_⟩, by omega⟩ (by show (10000 - (z + 1)).toNat < (10000 - z).toNat; omega) ⟨rfl, trivial⟩ (by repeat' first | exact HasL.nil | refine HasL.cons rfl ?_) (List.nil_sublist _)
          rcases Int.lt_or_le z 9999 with h1 | h1
          · omega
          · obtain rfl : z = 9999 := by omega
            rw [show aheadI (9999 + 1) = 2932897 by decide] at hc
            unfold good at hgd
            omega
        · try replace hc := dc hc
          refine Ps.exit ?_
          refine Ps.thn_exit ?_
          refine Ps.rnd_exit ?_
          refine Ps.blk_here ?_
          refine Ps.thn ?_
          refine Ps.seq ?_
          have hyl := year_len hz.1
          have hyl2 := rest12 z
          have h366 : restI z 12 ≤ 366 := by rw [hyl2]; split <;> omega
          have hnz : n < aheadI (z + 1) := by omega
          refine Ps.region rfl ?_
          refine Rs.move rfl rfl ?_
          refine Rs.convI rfl rfl ⟨_, rfl⟩ rfl rfl (by first | exact W_i64 (by omega) (by omega) | rfl) ?_
          refine Rs.move rfl rfl ?_
          refine Rs.call0 rfl rfl rfl (ahead_ok z (by omega)) (fun p37 hp => ?_)
          obtain rfl := hp
          refine Rs.sub rfl rfl rfl (W_i64 (by unfold good at hgd; omega) (by omega)) ?_
          refine Rs.assign (p := .lit _) rfl rfl ?_
          refine Rs.assign rfl rfl ?_
          refine Rs.nil ?_
          refine Ps.thn ?_
          refine Ps.seq ?_
          refine Ps.block ?_
          -- loop 3 writes [3, 4, 39, 40, 41, 42, 43, 44, 45, 46, 47, 48, 49, 50]
          refine Ps.loop (J := Nat × Int) ⟨fun j => (1 ≤ j.1 ∧ j.1 ≤ 12) ∧ (0 ≤ j.2 ∧ j.2 < restI z j.1 ∧ j.2 ≤ 400) ∧ n = aheadI z + (restI z 12 - restI z j.1) + j.2, fun j => [(3, i64P (13 - (j.1 : Int))), (4, i64P j.2)], fun _ => [], fun j => j.1⟩ [3, 4, 39, 40, 41, 42, 43, 44, 45, 46, 47, 48, 49, 50] ((38, _) :: (37, _) :: (36, _) :: (35, _) :: (34, _) :: (31, _) :: (30, _) :: (29, _) :: (28, _) :: (27, _) :: (26, _) :: (2, _) :: (23, _) :: (22, _) :: (21, _) :: (20, _) :: (19, _) :: (18, _) :: (17, _) :: (16, _) :: (15, _) :: (14, _) :: (13, _) :: (12, _) :: (11, _) :: (10, _) :: (9, _) :: (8, _) :: (7, _) :: (6, _) :: (5, _) :: (0, _) :: []) (12, n - aheadI z) rfl ⟨⟨(by decide : 1 ≤ 12), (by decide : 12 ≤ 12)⟩, ⟨by show 0 ≤ n - aheadI z; omega, by show n - aheadI z < restI z 12; omega, by show n - aheadI z ≤ 400; omega⟩, by show n = aheadI z + (restI z 12 - restI z 12) + (n - aheadI z); omega⟩ ⟨rfl, rfl, trivial⟩ (List.nil_sublist _) (fun j hj => ?_)
          obtain ⟨k, d⟩ := j
          obtain ⟨hk, hd, hn⟩ : (1 ≤ k ∧ k ≤ 12) ∧ (0 ≤ d ∧ d < restI z k ∧ d ≤ 400) ∧ n = aheadI z + (restI z 12 - restI z k) + d := hj
          have hlr := longI_rng (y := z) (m := 13 - (k : Int)) (by omega)
          have hrk : restI z k = longI z (13 - (k : Int)) + restI z (k - 1) := by
            obtain ⟨k, rfl⟩ : ∃ k', k = k' + 1 := ⟨k - 1, by omega⟩
            show longI z (12 - k) + restI z k = _
            rw [show (12 : Int) - k = 13 - ((k + 1 : Nat) : Int) by omega]
            rfl
          dsimp only [List.cons_append, List.nil_append]
          refine Ps.seq ?_
          refine Ps.seq ?_
          refine Ps.region rfl ?_
          refine Rs.move rfl rfl ?_
          refine Rs.move rfl rfl ?_
          refine Rs.move rfl rfl ?_
          refine Rs.call0 rfl rfl rfl (long_ok z (13 - (k : Int)) (by omega) (by omega)) (fun p42 hp => ?_)
          obtain rfl := hp
          refine Rs.binB rfl rfl rfl rfl rfl rfl ?_
          refine Rs.nil ?_
          refine Ps.thn ?_
          refine Ps.if rfl (fun hc => ?_) (fun hc => ?_)
          · try replace hc := dc hc
            refine Ps.skip ?_
            refine Ps.thn ?_
            refine Ps.block ?_
            refine Ps.seq ?_
            refine Ps.region rfl ?_
            refine Rs.move rfl rfl ?_
            refine Rs.move rfl rfl ?_
            refine Rs.move rfl rfl ?_
            refine Rs.call0 rfl rfl rfl (long_ok z (13 - (k : Int)) (by omega) (by omega)) (fun p47 hp => ?_)
            obtain rfl := hp
            refine Rs.sub rfl rfl rfl (W_i64 (by omega) (by unfold good at hgd; omega)) ?_
            refine Rs.assign rfl rfl ?_
            refine Rs.nil ?_
            refine Ps.thn ?_
            refine Ps.region rfl ?_
            refine Rs.move rfl rfl ?_
            refine Rs.add rfl rfl rfl (by first | exact W_i64s (by omega) | exact W_i64 (by omega) (by omega) | rfl) ?_
            refine Rs.assign rfl rfl ?_
            refine Rs.nil ?_
            refine Ps.blk ?_
            -- leaf 4 (round3)
            refine Ps.round (k - 1, d - longI z (13 - (k : Int))) ⟨?_, ?_, ?_⟩ (by show k - 1 < k; omega) ⟨?_, rfl, trivial⟩ (by repeat' first | exact HasL.nil | refine HasL.cons rfl ?_) (List.nil_sublist _)
            · show 1 ≤ k - 1 ∧ k - 1 ≤ 12
              rcases Nat.lt_or_ge 1 k with h1 | h1
              · omega
              · obtain rfl : k = 1 := by omega
                rw [hrk, show restI z (1 - 1) = 0 from rfl] at hd
                omega
            · show 0 ≤ d - longI z (13 - (k : Int)) ∧ d - longI z (13 - (k : Int)) < restI z (k - 1) ∧ d - longI z (13 - (k : Int)) ≤ 400
              omega
            · show n = aheadI z + (restI z 12 - restI z (k - 1)) + (d - longI z (13 - (k : Int)))
              omega
            · show some (i64P (13 - (k : Int) + 1)) = some (i64P (13 - ((k - 1 : Nat) : Int)))
              rw [show (13 : Int) - k + 1 = 13 - ((k - 1 : Nat) : Int) by omega]
          · try replace hc := dc hc
            refine Ps.exit ?_
            refine Ps.thn_exit ?_
            refine Ps.rnd_exit ?_
            refine Ps.blk_here ?_
            refine Ps.thn ?_
            refine Ps.seq ?_
            refine Ps.region rfl ?_
            refine Rs.move rfl rfl ?_
            refine Rs.move rfl rfl ?_
            refine Rs.move rfl rfl ?_
            refine Rs.add rfl rfl rfl (by first | exact W_i64s (by omega) | exact W_i64 (by omega) (by omega) | rfl) ?_
            refine Rs.assign rfl rfl ?_
            refine Rs.assign rfl rfl ?_
            refine Rs.assign rfl rfl ?_
            refine Rs.nil ?_
            refine Ps.thn ?_
            refine Ps.ret ?_
            -- leaf 5 (ret)
            refine Ps.finP (l := [_, _, _]) rfl (by refine ResR.tmp rfl ?_; refine ResR.tmp rfl ?_; refine ResR.tmp rfl ?_; exact ResR.nil) (by rfl) rfl ?_
            first
              | (refine .inl ⟨by unfold good; omega, rfl⟩; done)
              | (refine .inr ⟨hgd, z, k, d + 1, ⟨hz, hk, ⟨by omega, by omega⟩, by omega⟩, rfl⟩; done)
  · try replace hg := dc hg
    refine Rs.guardF1 rfl rfl rfl ?_
    refine Rs.guardF1 rfl rfl rfl ?_
    refine Rs.guardF1 rfl rfl rfl ?_
    refine Rs.pickT (p := .lit _) rfl rfl rfl rfl ?_
    refine Rs.nil ?_
    refine Ps.thn ?_
    refine Ps.ifT rfl ?_
    refine Ps.seq ?_
    refine Ps.region rfl ?_
    refine Rs.assign (p := .lit _) rfl rfl ?_
    refine Rs.assign (p := .lit _) rfl rfl ?_
    refine Rs.assign (p := .lit _) rfl rfl ?_
    refine Rs.nil ?_
    refine Ps.thn ?_
    refine Ps.ret ?_
    refine Ps.thn_ret ?_
    -- leaf 6 (ret)
    refine Ps.finP (l := [_, _, _]) rfl (by refine ResR.tmp rfl ?_; refine ResR.tmp rfl ?_; refine ResR.tmp rfl ?_; exact ResR.nil) (by rfl) rfl ?_
    first
      | (refine .inl ⟨by unfold good; omega, rfl⟩; done)
      | (refine .inr ⟨hgd, z, k, d + 1, ⟨hz, hk, ⟨by omega, by omega⟩, by omega⟩, rfl⟩; done)
end Go.Proofs.YtddaogebacigbaaGreatDoor.RV.T
end
section
open Go Go.Proofs.YtddaogebacigbaaGreatDoor.RV Go.Proofs.YtddaogebacigbaaGreatDoor.XA.Awk Go.Proofs.YtddaogebacigbaaGreatDoor.RV.ChartMath Go.Proofs
namespace Go.Proofs.YtddaogebacigbaaGreatDoor.RV.T
set_option maxRecDepth 100000
set_option linter.unusedVariables false
set_option linter.unusedSimpArgs false
variable {spc : Sp}
theorem rep0 : callPure (cfg spc) (exec (cfg spc) 3000) 95 [strP ⟨#[48]⟩, i64P 0] = some (strP ⟨#[]⟩) := by kernel_rfl
theorem rep1 : callPure (cfg spc) (exec (cfg spc) 3000) 95 [strP ⟨#[48]⟩, i64P 1] = some (strP ⟨#[48]⟩) := by kernel_rfl
theorem rep2 : callPure (cfg spc) (exec (cfg spc) 3000) 95 [strP ⟨#[48]⟩, i64P 2] = some (strP ⟨#[48, 48]⟩) := by kernel_rfl
theorem rep3 : callPure (cfg spc) (exec (cfg spc) 3000) 95 [strP ⟨#[48]⟩, i64P 3] = some (strP ⟨#[48, 48, 48]⟩) := by kernel_rfl
def zeros (k : Nat) : ByteArray := ⟨(List.replicate k 48).toArray⟩
theorem zeros_size (k : Nat) : (zeros k).size = k := by
  show (List.replicate k 48).toArray.size = k
  simp
theorem repeat_ok (k : Nat) (h : k ≤ 3) : Fn (cfg spc) 95 [strP ⟨#[48]⟩, i64P k] (· = strP (zeros k)) := by
  obtain rfl | rfl | rfl | rfl : k = 0 ∨ k = 1 ∨ k = 2 ∨ k = 3 := by omega
  · exact ⟨3000, _, rep0, rfl⟩
  · exact ⟨3000, _, rep1, rfl⟩
  · exact ⟨3000, _, rep2, rfl⟩
  · exact ⟨3000, _, rep3, rfl⟩
def padS (n : Int) (k : Nat) : ByteArray := zeros (k - (itoaS n).size) ++ itoaS n
theorem padS_size {n : Int} {k : Nat} (h : 0 ≤ n ∧ n ≤ 9999) (hk : k ≤ 4) : (padS n k).size ≤ 4 := by
  have := itoa_len4 h
  unfold padS
  rw [ByteArray.size_append, zeros_size]
  omega
theorem padded_ok (n : Int) (k : Nat) (h : 0 ≤ n ∧ n ≤ 9999) (hk : k ≤ 4) : Fn (cfg spc) 74 [i64P n, i64P k] (· = strP (padS n k)) := by
  have hl := itoa_len4 h
  refine Fn.go Tryz.func74 (L := [(0, _), (1, _)]) rfl rfl rfl (by first | rfl | (simp [deepL, deepB, *]; done) | (simp [deepL, deepB, *]; rfl)) rfl ?_
  refine Ps.seq ?_
  refine Ps.region rfl ?_
  refine Rs.assign (p := .lit _) rfl rfl ?_
  refine Rs.nil ?_
  refine Ps.thn ?_
  refine Ps.seq ?_
  refine Ps.region rfl ?_
  refine Rs.move rfl rfl ?_
  refine Rs.call3 rfl rfl rfl rfl (spc.itoa (by omega)) ?_
  refine Rs.assign rfl rfl ?_
  refine Rs.nil ?_
  refine Ps.thn ?_
  refine Ps.seq ?_
  refine Ps.region rfl ?_
  refine Rs.move rfl rfl ?_
  refine Rs.move rfl rfl ?_
  refine Rs.lenI rfl rfl rfl rfl ?_
  refine Rs.sub rfl rfl rfl (by first | exact W_i64p (by omega) (by omega) | exact W_i64 (by omega) (by omega) | rfl) ?_
  refine Rs.max rfl rfl rfl ?_
  have hz : (zeros (k - (itoaS n).size)).size ≤ 4 := by rw [zeros_size]; omega
  rw [show (if (0 : Int) > (k : Int) - ((itoaS n).size : Int) then (0 : Int) else (k : Int) - ((itoaS n).size : Int)) = ((k - (itoaS n).size : Nat) : Int) by split <;> omega]
  refine Rs.call0 rfl rfl rfl (repeat_ok (k - (itoaS n).size) (by omega)) (fun p13 hp => ?_)
  obtain rfl := hp
  refine Rs.move rfl rfl ?_
  refine Rs.addS rfl rfl rfl (by first | omega | (simp only [ByteArray.size_append]; omega)) ?_
  refine Rs.assign rfl rfl ?_
  refine Rs.nil ?_
  refine Ps.thn ?_
  refine Ps.ret ?_
  -- leaf 1 (ret)
  refine Ps.finP (l := [_]) rfl (by refine ResR.tmp rfl ?_; exact ResR.nil) (by first | rfl | simp [plainP, plainC, cp_lit, cp_dsl, *]) rfl ?_
  rfl
def textS (y m d : Int) : ByteArray := padS y 4 ++ ⟨#[45]⟩ ++ padS m 2 ++ ⟨#[45]⟩ ++ padS d 2
theorem textS_ne (y m d : Int) : textS y m d ≠ ⟨#[]⟩ := by
  intro h
  have h2 := congrArg ByteArray.size h
  simp only [textS, ByteArray.size_append] at h2
  have : (⟨#[45]⟩ : ByteArray).size = 1 := rfl
  have : (⟨#[]⟩ : ByteArray).size = 0 := rfl
  omega
theorem text_ok (n : Int) (h : -2147483648 ≤ n ∧ n ≤ 2147483647) : Fn (cfg spc) 46 [i32P n] (fun q => (¬ good n ∧ q = strP ⟨#[]⟩) ∨ (good n ∧ ∃ y k d, DateOk n y k d ∧ q = strP (textS y (13 - (k : Int)) d))) := by
  refine Fn.go Tryz.func46 (L := [(0, _)]) rfl rfl rfl (by first | rfl | (simp [deepL, deepB, *]; done) | (simp [deepL, deepB, *]; rfl)) rfl ?_
  refine Ps.seq ?_
  refine Ps.region rfl ?_
  refine Rs.assign (p := .lit _) rfl rfl ?_
  refine Rs.nil ?_
  refine Ps.thn ?_
  refine Ps.seq ?_
  refine Ps.region rfl ?_
  refine Rs.move rfl rfl ?_
  refine Rs.call0 rfl rfl rfl (date_ok n h) (fun p8 hp => ?_)
  obtain ⟨y, m, d, hq, rfl⟩ : ∃ y m d, ((¬ good n ∧ y = 0 ∧ m = 0 ∧ d = 0) ∨ (good n ∧ ∃ k : Nat, DateOk n y k d ∧ m = 13 - (k : Int))) ∧ p8 = .tup [i64P y, i64P m, i64P d] := by
    rcases hp with ⟨h1, rfl⟩ | ⟨h1, y, k, d, h2, rfl⟩
    · exact ⟨0, 0, 0, .inl ⟨h1, rfl, rfl, rfl⟩, rfl⟩
    · exact ⟨y, _, d, .inr ⟨h1, k, h2, rfl⟩, rfl⟩
  clear hp
  refine Rs.move rfl rfl ?_
  refine Rs.extract rfl rfl rfl ?_
  refine Rs.extract rfl rfl rfl ?_
  refine Rs.extract rfl rfl rfl ?_
  refine Rs.assign rfl rfl ?_
  refine Rs.assign rfl rfl ?_
  refine Rs.assign rfl rfl ?_
  refine Rs.nil ?_
  refine Ps.thn ?_
  refine Ps.seq ?_
  refine Ps.seq ?_
  refine Ps.region rfl ?_
  refine Rs.move rfl rfl ?_
  refine Rs.binB rfl rfl rfl rfl rfl rfl ?_
  refine Rs.nil ?_
  refine Ps.thn ?_
  refine Ps.if rfl (fun hc => ?_) (fun hc => ?_)
  · try replace hc := dc hc
    refine Ps.seq ?_
    refine Ps.region rfl ?_
    refine Rs.assign (p := .lit _) rfl rfl ?_
    refine Rs.nil ?_
    refine Ps.thn ?_
    refine Ps.ret ?_
    refine Ps.thn_ret ?_
    -- leaf 1 (ret)
    refine Ps.finL rfl rfl rfl ?_
    first
      | (refine .inr ⟨hgd, y, k, d, hD, rfl⟩; done)
      | (refine .inl ⟨?_, rfl⟩
         rcases hq with hh | ⟨_, k, hD, _⟩
         · exact hh.1
         · have := hD.yr; omega)
  · try replace hc := dc hc
    refine Ps.skip ?_
    refine Ps.thn ?_
    refine Ps.seq ?_
    obtain ⟨hgd, k, hD, rfl⟩ : good n ∧ ∃ k : Nat, DateOk n y k d ∧ m = 13 - (k : Int) := hq.resolve_left (fun hh => hc hh.2.1)
    have h1 := hD.yr
    have h2 := hD.mo
    have h3 := hD.dy
    have h4 := longI_rng (y := y) (m := 13 - (k : Int)) (by omega)
    have z1 := padS_size (n := y) (k := 4) (by omega) (by omega)
    have z2 := padS_size (n := 13 - (k : Int)) (k := 2) (by omega) (by omega)
    have z3 := padS_size (n := d) (k := 2) (by omega) (by omega)
    have z0 : (⟨#[45]⟩ : ByteArray).size = 1 := rfl
    refine Ps.region rfl ?_
    refine Rs.move rfl rfl ?_
    refine Rs.call0 rfl rfl rfl (padded_ok y 4 (by omega) (by omega)) (fun p15 hp => ?_)
    obtain rfl := hp
    refine Rs.addS rfl rfl rfl (by first | omega | (simp only [ByteArray.size_append]; omega)) ?_
    refine Rs.move rfl rfl ?_
    refine Rs.call0 rfl rfl rfl (padded_ok (13 - (k : Int)) 2 (by omega) (by omega)) (fun p18 hp => ?_)
    obtain rfl := hp
    refine Rs.addS rfl rfl rfl (by first | omega | (simp only [ByteArray.size_append]; omega)) ?_
    refine Rs.addS rfl rfl rfl (by first | omega | (simp only [ByteArray.size_append]; omega)) ?_
    refine Rs.move rfl rfl ?_
    refine Rs.call0 rfl rfl rfl (padded_ok d 2 (by omega) (by omega)) (fun p22 hp => ?_)
    obtain rfl := hp
    refine Rs.addS rfl rfl rfl (by first | omega | (simp only [ByteArray.size_append]; omega)) ?_
    refine Rs.assign rfl rfl ?_
    refine Rs.nil ?_
    refine Ps.thn ?_
    refine Ps.ret ?_
    -- leaf 2 (ret)
    refine Ps.finL rfl rfl rfl ?_
    first
      | (refine .inr ⟨hgd, y, k, d, hD, rfl⟩; done)
      | (refine .inl ⟨?_, rfl⟩
         rcases hq with hh | ⟨_, k, hD, _⟩
         · exact hh.1
         · have := hD.yr; omega)
end Go.Proofs.YtddaogebacigbaaGreatDoor.RV.T
end
section
open Go Go.Proofs.YtddaogebacigbaaGreatDoor.RV Go.Proofs.YtddaogebacigbaaGreatDoor.XA.Awk Go.Proofs.YtddaogebacigbaaGreatDoor.RV.ChartMath Go.Proofs
namespace Go.Proofs.YtddaogebacigbaaGreatDoor.RV.T
set_option maxRecDepth 100000
set_option linter.unusedVariables false
set_option linter.unusedSimpArgs false
variable {spc : Sp}
theorem cloneD_fm (l : List Int) (c : Option Nat) (hne : l ≠ []) (hl : l.length ≤ 999999) : Fm0 (cfg spc) 58 [.dsl 1 (l.map i32P) c] [] (fun p M' => ∃ id v s l' cap, p = .own id v s 0 l'.length cap ∧ (id, v, .blk s l' true) ∈ M' ∧ deepL l' = true ∧ (s = 1 ∧ l' = l.map i32P ∧ cap = none)) := by
  have hne2 : l.map i32P ≠ [] := by simpa using hne
  refine Fm0.go Tryz.func58 (L := [(0, _)]) rfl rfl rfl rfl ?_
  refine Ps.seq ?_
  refine Ps.region rfl ?_
  refine Rs.assign (p := .lit _) rfl rfl ?_
  refine Rs.nil ?_
  refine Ps.thn ?_
  refine Ps.seq ?_
  refine Ps.seq ?_
  refine Ps.region rfl ?_
  refine Rs.move rfl rfl ?_
  refine Rs.neNil rfl rfl rfl rfl hne2 ?_
  refine Rs.nil ?_
  refine Ps.thn ?_
  refine Ps.if rfl (fun hc => ?_) (fun hc => ?_)
  · try replace hc := dc hc
    refine Ps.seq ?_
    refine Ps.region rfl ?_
    refine Rs.assign (p := .lit _) rfl rfl ?_
    refine Rs.nil ?_
    refine Ps.thn ?_
    refine Ps.ret ?_
    refine Ps.thn_ret ?_
    -- leaf 1 (ret)
    first
      | (cases hc; done)
      | (refine Ps.finM0 (l := [_]) rfl (by refine ResR.tmp rfl ?_; exact ResR.nil) ⟨g, 0, 1, l.map i32P, none, rfl, by simp, deepL_of (map_all fun _ => rfl), rfl, rfl, rfl⟩)
  · try replace hc := dc hc
    refine Ps.skip ?_
    refine Ps.thn ?_
    refine Ps.seq ?_
    refine Ps.region rfl ?_
    refine Rs.buildSlice (l := []) rfl rfl rfl rfl (by first | rfl | simp [deepL, deepB, *]) ?_
    refine Rs.move rfl rfl ?_
    refine Rs.appendC 1 4 rfl rfl ⟨_, rfl⟩ rfl rfl rfl rfl rfl rfl rfl rfl rfl hne2 (sizes_all (map_all fun _ => rfl)) (scalarsE_all (map_all fun _ => rfl)) (by simp; omega) (fun g => ?_)
    refine Rs.assign rfl rfl ?_
    refine Rs.nil ?_
    refine Ps.thn ?_
    refine Ps.ret ?_
    -- leaf 2 (ret)
    first
      | (cases hc; done)
      | (refine Ps.finM0 (l := [_]) rfl (by refine ResR.tmp rfl ?_; exact ResR.nil) ⟨g, 0, 1, l.map i32P, none, rfl, by simp, deepL_of (map_all fun _ => rfl), rfl, rfl, rfl⟩)
theorem cloneD_ok (l : List Int) (c : Option Nat) (hne : l ≠ []) (hl : l.length ≤ 999999) : Fo (cfg spc) 58 [.dsl 1 (l.map i32P) c] (fun s l' cap => s = 1 ∧ l' = l.map i32P ∧ cap = none) :=
  Fo.of0 rfl (cloneD_fm l c hne hl)
def chkD : Option Int → List Int → Int
  | _, [] => 0
  | q, d :: r => if ¬ (-719162 ≤ d ∧ d < 2932897) then 13 else if q.any (fun m => decide (d ≤ m)) = true then 6 else chkD (some d) r
def chkCal (st : List Int) (en : Int) : Int := if st.length < 1 ∨ 60 < st.length then 2 else chkD none (st ++ [en])
def calP (p : PV) (en : Int) : PV := .agg [p, i32P en]
theorem calCheck_ok (st : List Int) (en : Int) (p : PV) (hp : IsSl 1 (st.map i32P) p) (hl : st.length < 1000000) (hw : ∀ x ∈ st, -2147483648 ≤ x ∧ x ≤ 2147483647) (he : -2147483648 ≤ en ∧ en ≤ 2147483647) : Fn (cfg spc) 39 [calP p en] (· = i64P (chkCal st en)) := by
  refine Fn.go Tryz.func39 (L := [(0, _)]) rfl rfl rfl (by show (deepB (.agg [p, i32P en]) && deepL []) = true; simp only [deepB, deepL, hp.deep, Bool.and_true, Bool.and_self]) rfl ?_
  refine Ps.seq ?_
  refine Ps.region rfl ?_
  refine Rs.box (l := [p, i32P en]) rfl rfl rfl (by show deepB (.agg [p, i32P en]) = true; simp only [deepB, deepL, hp.deep, Bool.and_true, Bool.and_self]) rfl ?_
  refine Rs.assign (p := .lit _) rfl rfl ?_
  refine Rs.nil ?_
  refine Ps.thn ?_
  refine Ps.seq ?_
  refine Ps.seq ?_
  refine Ps.region rfl ?_
  first | refine Rs.fieldAddrD rfl rfl rfl rfl ?_ | refine Rs.fieldAddrP rfl rfl rfl rfl ?_
  refine Rs.loadD rfl rfl rfl rfl ?_
  first | refine Rs.lenD rfl rfl rfl rfl ?_ | refine Rs.lenO rfl rfl rfl rfl ?_ | refine Rs.lenI rfl rfl rfl rfl ?_ | refine Rs.lenA rfl rfl rfl rfl (by assumption) ?_ | refine Rs.lenS rfl rfl rfl rfl (by assumption) ?_
  refine Rs.binB rfl rfl rfl rfl rfl rfl ?_
  refine Rs.move rfl rfl ?_
  refine Rs.guard1 (w' := true) rfl rfl rfl (fun hg => ?_) (fun hg => ?_)
  · try replace hg := dc hg
    first | refine Rs.fieldAddrD rfl rfl rfl rfl ?_ | refine Rs.fieldAddrP rfl rfl rfl rfl ?_
    refine Rs.guardT rfl ?_
    refine Rs.loadD rfl rfl rfl rfl ?_
    refine Rs.guardT rfl ?_
    first | refine Rs.lenD rfl rfl rfl rfl ?_ | refine Rs.lenO rfl rfl rfl rfl ?_ | refine Rs.lenI rfl rfl rfl rfl ?_ | refine Rs.lenA rfl rfl rfl rfl (by assumption) ?_ | refine Rs.lenS rfl rfl rfl rfl (by assumption) ?_
    refine Rs.guardT rfl ?_
    refine Rs.binB rfl rfl rfl rfl rfl rfl ?_
    refine Rs.pickF (p := .lit _) rfl rfl rfl rfl ?_
    refine Rs.nil ?_
    refine Ps.thn ?_
    refine Ps.if rfl (fun hc => ?_) (fun hc => ?_)
    · try replace hc := dc hc
      refine Ps.seq ?_
      refine Ps.region rfl ?_
      refine Rs.assign (p := .lit _) rfl rfl ?_
      refine Rs.nil ?_
      refine Ps.thn ?_
      refine Ps.ret ?_
      refine Ps.thn_ret ?_
      -- leaf 1 (ret)
      refine Ps.finL rfl rfl rfl ?_
      refine congrArg (fun n => PV.lit (.int .i64 n)) ?_
      first
        | (unfold chkCal; rw [if_pos (by simp at hg; omega)]; done)
        | (unfold chkCal; rw [if_pos (by simp at hc; omega)]; done)
        | (rw [hcal, ← hjc, if_pos]
           rcases hs with ⟨h, _⟩ | ⟨_, h⟩
           · unfold good at h; exact h
           · exact absurd ((Lib.bytes_beq_iff _ _).1 hc) h)
        | (rw [hcal, ← hjc, if_pos (before_ge (by omega) (List.getElem?_eq_getElem hlp) (by simpa using hc))]; done)
        | (rw [hcal, ← hjc, List.drop_eq_nil_of_le (by simp at hc ⊢; omega), chkD]; done)
    · try replace hc := dc hc
      refine Ps.skip ?_
      refine Ps.thn ?_
      refine Ps.seq ?_
      have hlen : 1 ≤ st.length ∧ st.length ≤ 60 := by simp at hg hc; omega
      have hne : st ≠ [] := by intro h; subst h; simp at hlen
      have hcal : chkCal st en = chkD none (st ++ [en]) := by unfold chkCal; rw [if_neg (by omega)]
      have hw2 : ∀ x ∈ st ++ [en], -2147483648 ≤ x ∧ x ≤ 2147483647 := by
        intro x hx
        rcases List.mem_append.1 hx with hx | hx
        · exact hw x hx
        · rw [List.mem_singleton.1 hx]; exact he
      obtain ⟨c, rfl⟩ : ∃ c, p = .dsl 1 (st.map i32P) c := hp.resolve_right (fun h => hne (by simpa using h.1))
      refine Ps.region rfl ?_
      first | refine Rs.fieldAddrD rfl rfl rfl rfl ?_ | refine Rs.fieldAddrP rfl rfl rfl rfl ?_
      refine Rs.loadD rfl rfl rfl rfl ?_
      refine Rs.call5 rfl rfl rfl (cloneD_ok st c hne (by omega)) (fun s18 l18 cap18 hp g18 => ?_)
      obtain ⟨rfl, rfl, rfl⟩ := hp
      first | refine Rs.fieldAddrD rfl rfl rfl rfl ?_ | refine Rs.fieldAddrP rfl rfl rfl rfl ?_
      refine Rs.loadD rfl rfl rfl rfl ?_
      refine Rs.buildSlice (l := [_]) rfl rfl rfl rfl (by first | rfl | simp [deepL, deepB, *]) ?_
      refine Rs.append0 1 4 (a := some (g18, 0)) (l := st.map i32P) (xs := [i32P en]) rfl rfl ⟨_, rfl⟩ rfl rfl rfl rfl rfl rfl rfl rfl rfl rfl (by simp [hne]) rfl rfl (by simp; omega) (fun a22 ha22 => ?_)
      have ee : List.map i32P st ++ [i32P en] = (st ++ [en]).map i32P := by simp
      rw [ee] at ha22 ⊢
      obtain ⟨⟨gi, gv⟩, rfl⟩ : ∃ x, a22 = some x := by
        cases a22 with
        | none => exact absurd (ha22.1 rfl) (by simp)
        | some x => exact ⟨x, rfl⟩
      refine Rs.assign rfl rfl ?_
      refine Rs.nil ?_
      refine Ps.thn ?_
      refine Ps.seq ?_
      refine Ps.seq ?_
      refine Ps.region rfl ?_
      refine Rs.move rfl rfl ?_
      first | refine Rs.lenD rfl rfl rfl rfl ?_ | refine Rs.lenO rfl rfl rfl rfl ?_ | refine Rs.lenI rfl rfl rfl rfl ?_ | refine Rs.lenA rfl rfl rfl rfl (by assumption) ?_ | refine Rs.lenS rfl rfl rfl rfl (by assumption) ?_
      refine Rs.move (p := .lit _) rfl rfl ?_
      refine Rs.nil ?_
      refine Ps.thn ?_
      refine Ps.block ?_
      -- loop 1 writes [2, 4, 5, 25, 26, 27, 28, 29, 30, 31, 32, 33, 34, 35, 36, 37, 38, 39, 40, 41, 42, 43, 44, 45, 46]
      refine Ps.loop (J := Nat) ⟨fun j => j ≤ (st ++ [en]).length ∧ chkD (before (st ++ [en]) j) ((st ++ [en]).drop j) = chkD none (st ++ [en]), fun j => [(25, i64P j)], fun _ => [(gi, gv, .blk 1 ((st ++ [en]).map i32P) true)], fun j => (st ++ [en]).length - j⟩ [2, 4, 5, 25, 26, 27, 28, 29, 30, 31, 32, 33, 34, 35, 36, 37, 38, 39, 40, 41, 42, 43, 44, 45, 46] [(24, _), (23, _), (3, _), (22, _), (21, _), (20, _), (19, _), (18, _), (17, _), (16, _), (15, _), (14, _), (13, _), (12, _), (11, _), (10, _), (9, _), (8, _), (7, _), (6, _), (1, _), (0, _)] 0 rfl ⟨Nat.zero_le _, rfl⟩ ⟨rfl, trivial⟩ (by repeat' first | exact List.Sublist.refl _ | exact List.nil_sublist _ | exact List.sublist_append_left _ _ | refine List.Sublist.cons_cons _ ?_ | refine List.Sublist.cons _ ?_) (fun j hj => ?_)
      obtain ⟨hj, hjc⟩ : j ≤ (st ++ [en]).length ∧ chkD (before (st ++ [en]) j) ((st ++ [en]).drop j) = chkD none (st ++ [en]) := hj
      have hL : (st ++ [en]).length ≤ 61 := by simp; omega
      dsimp only [List.cons_append, List.nil_append]
      refine Ps.seq ?_
      refine Ps.region rfl ?_
      refine Rs.binB rfl rfl rfl rfl rfl rfl ?_
      refine Rs.nil ?_
      refine Ps.thn ?_
      refine Ps.seq ?_
      refine Ps.if rfl (fun hc => ?_) (fun hc => ?_)
      · try replace hc := dc hc
        refine Ps.skip ?_
        refine Ps.thn ?_
        refine Ps.seq ?_
        refine Ps.block ?_
        refine Ps.seq ?_
        have hlt : j < (st ++ [en]).length := by simp at hc ⊢; omega
        obtain ⟨x, hx⟩ := at_lt hlt
        have hxw := hw2 x (List.mem_of_getElem? hx)
        rw [drop_at hx, chkD] at hjc
        refine Ps.region rfl ?_
        refine Rs.move rfl rfl ?_
        refine Rs.indexO rfl rfl rfl rfl rfl rfl (by simp at hlt ⊢; omega) ?_
        refine Rs.loadP (p := i32P x) 0 rfl rfl rfl rfl (by unfold partE; rw [Nat.zero_add, map_at hx]; rfl) ?_
        refine Rs.assign rfl rfl ?_
        refine Rs.assign rfl rfl ?_
        refine Rs.nil ?_
        refine Ps.thn ?_
        refine Ps.block ?_
        refine Ps.seq ?_
        refine Ps.region rfl ?_
        refine Rs.move rfl rfl ?_
        refine Rs.call0 rfl rfl rfl (text_ok x hxw) (fun p32 hp => ?_)
        obtain ⟨s, hs, rfl⟩ : ∃ s, ((¬ good x ∧ s = ⟨#[]⟩) ∨ (good x ∧ s ≠ ⟨#[]⟩)) ∧ p32 = strP s := by
          rcases hp with ⟨h1, rfl⟩ | ⟨h1, y, k, d, _, rfl⟩
          · exact ⟨_, .inl ⟨h1, rfl⟩, rfl⟩
          · exact ⟨_, .inr ⟨h1, textS_ne _ _ _⟩, rfl⟩
        clear hp
        refine Rs.binB rfl rfl rfl rfl rfl rfl ?_
        refine Rs.assign rfl rfl ?_
        refine Rs.nil ?_
        refine Ps.thn ?_
        refine Ps.if rfl (fun hc => ?_) (fun hc => ?_)
        · try replace hc := dc hc
          refine Ps.seq ?_
          refine Ps.region rfl ?_
          refine Rs.assign (p := .lit _) rfl rfl ?_
          refine Rs.nil ?_
          refine Ps.thn ?_
          refine Ps.ret ?_
          refine Ps.blk_ret ?_
          refine Ps.blk_ret ?_
          refine Ps.thn_ret ?_
          refine Ps.rnd_ret ?_
          refine Ps.blk_ret ?_
          refine Ps.thn_ret ?_
          -- leaf 2 (ret)
          refine Ps.finL rfl rfl rfl ?_
          refine congrArg (fun n => PV.lit (.int .i64 n)) ?_
          first
            | (unfold chkCal; rw [if_pos (by simp at hg; omega)]; done)
            | (unfold chkCal; rw [if_pos (by simp at hc; omega)]; done)
            | (rw [hcal, ← hjc, if_pos]
               rcases hs with ⟨h, _⟩ | ⟨_, h⟩
               · unfold good at h; exact h
               · exact absurd ((Lib.bytes_beq_iff _ _).1 hc) h)
            | (rw [hcal, ← hjc, if_pos (before_ge (by omega) (List.getElem?_eq_getElem hlp) (by simpa using hc))]; done)
            | (rw [hcal, ← hjc, List.drop_eq_nil_of_le (by simp at hc ⊢; omega), chkD]; done)
        · try replace hc := dc hc
          refine Ps.seq ?_
          have hgx : good x := by
            rcases hs with ⟨_, rfl⟩ | ⟨h, _⟩
            · exact absurd rfl ((Lib.bytes_beq_false_iff _ _).1 hc)
            · exact h
          rw [if_neg (by unfold good at hgx; omega)] at hjc
          refine Ps.region rfl ?_
          refine Rs.move rfl rfl ?_
          refine Rs.binB rfl rfl rfl rfl rfl rfl ?_
          refine Rs.move rfl rfl ?_
          refine Rs.guard1 (w' := false) rfl rfl rfl (fun hg => ?_) (fun hg => ?_)
          · try replace hg := dc hg
            refine Rs.move rfl rfl ?_
            refine Rs.guardT rfl ?_
            refine Rs.move rfl rfl ?_
            refine Rs.guardT rfl ?_
            refine Rs.sub rfl rfl rfl (by first | exact W_i64p (by omega) (by omega) | exact W_i64 (by omega) (by omega) | rfl) ?_
            refine Rs.guardT rfl ?_
            refine Rs.indexO rfl rfl rfl rfl rfl (by first | rfl | omega) (by simp at hlt ⊢; omega) ?_
            refine Rs.guardT rfl ?_
            have hlp : j - 1 < (st ++ [en]).length := by omega
            refine Rs.loadP (p := i32P ((st ++ [en])[j-1]'hlp)) 0 rfl rfl rfl rfl (by unfold partE; rw [Nat.zero_add, map_at (List.getElem?_eq_getElem hlp)]; rfl) ?_
            refine Rs.guardT rfl ?_
            refine Rs.move rfl rfl ?_
            refine Rs.guardT rfl ?_
            refine Rs.binB rfl rfl rfl rfl rfl rfl ?_
            refine Rs.pickT (q := .lit _) rfl rfl rfl rfl ?_
            refine Rs.assign rfl rfl ?_
            refine Rs.nil ?_
            refine Ps.thn ?_
            refine Ps.if rfl (fun hc => ?_) (fun hc => ?_)
            · try replace hc := dc hc
              refine Ps.seq ?_
              refine Ps.region rfl ?_
              refine Rs.assign (p := .lit _) rfl rfl ?_
              refine Rs.nil ?_
              refine Ps.thn ?_
              refine Ps.ret ?_
              refine Ps.blk_ret ?_
              refine Ps.blk_ret ?_
              refine Ps.thn_ret ?_
              refine Ps.rnd_ret ?_
              refine Ps.blk_ret ?_
              refine Ps.thn_ret ?_
              -- leaf 3 (ret)
              refine Ps.finL rfl rfl rfl ?_
              refine congrArg (fun n => PV.lit (.int .i64 n)) ?_
              first
                | (unfold chkCal; rw [if_pos (by simp at hg; omega)]; done)
                | (unfold chkCal; rw [if_pos (by simp at hc; omega)]; done)
                | (rw [hcal, ← hjc, if_pos]
                   rcases hs with ⟨h, _⟩ | ⟨_, h⟩
                   · unfold good at h; exact h
                   · exact absurd ((Lib.bytes_beq_iff _ _).1 hc) h)
                | (rw [hcal, ← hjc, if_pos (before_ge (by omega) (List.getElem?_eq_getElem hlp) (by simpa using hc))]; done)
                | (rw [hcal, ← hjc, List.drop_eq_nil_of_le (by simp at hc ⊢; omega), chkD]; done)
            · try replace hc := dc hc
              refine Ps.skip ?_
              refine Ps.blk ?_
              refine Ps.blk ?_
              refine Ps.thn ?_
              refine Ps.region rfl ?_
              refine Rs.add rfl rfl rfl (by first | exact W_i64s (by omega) | exact W_i64 (by omega) (by omega) | rfl) ?_
              refine Rs.move rfl rfl ?_
              refine Rs.nil ?_
              -- leaf 4 (round1)
              have ho : (before (st ++ [en]) j).any (fun q => decide (x ≤ q)) = false := before_lt hlt (fun h y hy => by
                first
                  | (simp at hg; omega)
                  | (rw [List.getElem?_eq_getElem (by omega)] at hy; cases hy; simp at hc; omega))
              refine Ps.round (j + 1) ⟨hlt, ?_⟩ (by show (st ++ [en]).length - (j + 1) < (st ++ [en]).length - j; omega) ⟨rfl, trivial⟩ (by repeat' first | exact HasL.nil | refine HasL.cons rfl ?_) (by repeat' first | exact List.Sublist.refl _ | exact List.nil_sublist _ | exact List.sublist_append_left _ _ | refine List.Sublist.cons_cons _ ?_ | refine List.Sublist.cons _ ?_)
              show chkD ((st ++ [en])[j]?) _ = _
              rw [hx, ← hjc, if_neg (by rw [ho]; decide)]
          · try replace hg := dc hg
            refine Rs.guardF1 rfl rfl rfl ?_
            refine Rs.guardF1 rfl rfl rfl ?_
            refine Rs.guardF1 rfl rfl rfl ?_
            refine Rs.guardF1 rfl rfl rfl ?_
            refine Rs.guardF1 rfl rfl rfl ?_
            refine Rs.guardF1 rfl rfl rfl ?_
            refine Rs.pickF (q := .lit _) rfl rfl rfl rfl ?_
            refine Rs.assign rfl rfl ?_
            refine Rs.nil ?_
            refine Ps.thn ?_
            refine Ps.ifF rfl ?_
            refine Ps.skip ?_
            refine Ps.blk ?_
            refine Ps.blk ?_
            refine Ps.thn ?_
            refine Ps.region rfl ?_
            refine Rs.add rfl rfl rfl (by first | exact W_i64s (by omega) | exact W_i64 (by omega) (by omega) | rfl) ?_
            refine Rs.move rfl rfl ?_
            refine Rs.nil ?_
            -- leaf 5 (round1)
            have ho : (before (st ++ [en]) j).any (fun q => decide (x ≤ q)) = false := before_lt hlt (fun h y hy => by
              first
                | (simp at hg; omega)
                | (rw [List.getElem?_eq_getElem (by omega)] at hy; cases hy; simp at hc; omega))
            refine Ps.round (j + 1) ⟨hlt, ?_⟩ (by show (st ++ [en]).length - (j + 1) < (st ++ [en]).length - j; omega) ⟨rfl, trivial⟩ (by repeat' first | exact HasL.nil | refine HasL.cons rfl ?_) (by repeat' first | exact List.Sublist.refl _ | exact List.nil_sublist _ | exact List.sublist_append_left _ _ | refine List.Sublist.cons_cons _ ?_ | refine List.Sublist.cons _ ?_)
            show chkD ((st ++ [en])[j]?) _ = _
            rw [hx, ← hjc, if_neg (by rw [ho]; decide)]
      · try replace hc := dc hc
        refine Ps.exit ?_
        refine Ps.thn_exit ?_
        refine Ps.rnd_exit ?_
        refine Ps.blk_here ?_
        refine Ps.thn ?_
        refine Ps.seq ?_
        refine Ps.region rfl ?_
        refine Rs.assign (p := .lit _) rfl rfl ?_
        refine Rs.nil ?_
        refine Ps.thn ?_
        refine Ps.ret ?_
        -- leaf 6 (ret)
        refine Ps.finL rfl rfl rfl ?_
        refine congrArg (fun n => PV.lit (.int .i64 n)) ?_
        first
          | (unfold chkCal; rw [if_pos (by simp at hg; omega)]; done)
          | (unfold chkCal; rw [if_pos (by simp at hc; omega)]; done)
          | (rw [hcal, ← hjc, if_pos]
             rcases hs with ⟨h, _⟩ | ⟨_, h⟩
             · unfold good at h; exact h
             · exact absurd ((Lib.bytes_beq_iff _ _).1 hc) h)
          | (rw [hcal, ← hjc, if_pos (before_ge (by omega) (List.getElem?_eq_getElem hlp) (by simpa using hc))]; done)
          | (rw [hcal, ← hjc, List.drop_eq_nil_of_le (by simp at hc ⊢; omega), chkD]; done)
  · try replace hg := dc hg
    refine Rs.guardF1 rfl rfl rfl ?_
    refine Rs.guardF1 rfl rfl rfl ?_
    refine Rs.guardF1 rfl rfl rfl ?_
    refine Rs.pickT (p := .lit _) rfl rfl rfl rfl ?_
    refine Rs.nil ?_
    refine Ps.thn ?_
    refine Ps.ifT rfl ?_
    refine Ps.seq ?_
    refine Ps.region rfl ?_
    refine Rs.assign (p := .lit _) rfl rfl ?_
    refine Rs.nil ?_
    refine Ps.thn ?_
    refine Ps.ret ?_
    refine Ps.thn_ret ?_
    -- leaf 7 (ret)
    refine Ps.finL rfl rfl rfl ?_
    refine congrArg (fun n => PV.lit (.int .i64 n)) ?_
    first
      | (unfold chkCal; rw [if_pos (by simp at hg; omega)]; done)
      | (unfold chkCal; rw [if_pos (by simp at hc; omega)]; done)
      | (rw [hcal, ← hjc, if_pos]
         rcases hs with ⟨h, _⟩ | ⟨_, h⟩
         · unfold good at h; exact h
         · exact absurd ((Lib.bytes_beq_iff _ _).1 hc) h)
      | (rw [hcal, ← hjc, if_pos (before_ge (by omega) (List.getElem?_eq_getElem hlp) (by simpa using hc))]; done)
      | (rw [hcal, ← hjc, List.drop_eq_nil_of_le (by simp at hc ⊢; omega), chkD]; done)
end Go.Proofs.YtddaogebacigbaaGreatDoor.RV.T
end
section
open Go Go.Proofs.YtddaogebacigbaaGreatDoor.RV Go.Proofs.YtddaogebacigbaaGreatDoor.XA.Awk Go.Proofs.YtddaogebacigbaaGreatDoor.RV.ChartMath Go.Proofs
namespace Go.Proofs.YtddaogebacigbaaGreatDoor.RV.T
set_option maxRecDepth 100000
set_option linter.unusedVariables false
set_option linter.unusedSimpArgs false
variable {spc : Sp}
def frP (cp up sp : PV) (en : Int) : PV := .agg [cp, up, sp, i32P en]
def chkFrame (ch : List Acc) (un st : List Int) (en : Int) : Int := if chkChart ch ≠ 0 then chkChart ch else if chkUnits un ≠ 0 then chkUnits un else chkCal st en
theorem frameCheck_ok (ch : List Acc) (un st : List Int) (en : Int) (cp up sp : PV) (hcp : IsSl 4 (ch.map accP) cp) (hup : IsSl 1 (un.map u16P) up) (hsp : IsSl 1 (st.map i32P) sp) (hcw : ∀ a ∈ ch, AccOk a) (hcl : ch.length < 1000000) (hul : un.length < 1000000) (hsl : st.length < 1000000) (hw : ∀ x ∈ st, -2147483648 ≤ x ∧ x ≤ 2147483647) (he : -2147483648 ≤ en ∧ en ≤ 2147483647) : Fn (cfg spc) 40 [frP cp up sp en] (· = i64P (chkFrame ch un st en)) := by
  have cd := hcp.deep
  have ud := hup.deep
  have sd := hsp.deep
  refine Fn.go Tryz.func40 (L := [(0, _)]) rfl rfl rfl (by show (deepB (.agg [cp, up, sp, i32P en]) && deepL []) = true; simp only [deepB, deepL, cd, ud, sd, Bool.and_true, Bool.and_self]) rfl ?_
  refine Ps.seq ?_
  refine Ps.region rfl ?_
  refine Rs.box (l := [cp, up, sp, i32P en]) rfl rfl rfl (by show deepB (.agg [cp, up, sp, i32P en]) = true; simp only [deepB, deepL, cd, ud, sd, Bool.and_true, Bool.and_self]) rfl ?_
  refine Rs.assign (p := .lit _) rfl rfl ?_
  refine Rs.nil ?_
  refine Ps.thn ?_
  refine Ps.seq ?_
  refine Ps.seq ?_
  refine Ps.region rfl ?_
  first | refine Rs.fieldAddrD rfl rfl rfl rfl ?_ | refine Rs.fieldAddrP rfl rfl rfl rfl ?_
  refine Rs.loadD rfl rfl rfl rfl ?_
  refine Rs.makeFunc rfl rfl rfl ?_
  first | refine Rs.fieldAddrD rfl rfl rfl rfl ?_ | refine Rs.fieldAddrP rfl rfl rfl rfl ?_
  refine Rs.loadD rfl rfl rfl rfl ?_
  refine Rs.makeFunc rfl rfl rfl ?_
  first | refine Rs.fieldAddrD rfl rfl rfl rfl ?_ | refine Rs.fieldAddrP rfl rfl rfl rfl ?_
  refine Rs.loadD (p := .agg [_, _]) rfl rfl rfl rfl ?_
  refine Rs.makeFunc rfl rfl rfl ?_
  refine Rs.buildSlice (l := [_, _, _]) rfl rfl rfl rfl (by first | rfl | simp [deepL, deepB, *]) ?_
  first | refine Rs.lenD rfl rfl rfl rfl ?_ | refine Rs.lenO rfl rfl rfl rfl ?_ | refine Rs.lenI rfl rfl rfl rfl ?_ | refine Rs.lenA rfl rfl rfl rfl (by assumption) ?_ | refine Rs.lenS rfl rfl rfl rfl (by assumption) ?_
  refine Rs.move (p := .lit _) rfl rfl ?_
  refine Rs.nil ?_
  refine Ps.thn ?_
  refine Ps.block ?_
  -- loop 1 writes [2, 4, 5, 17, 18, 19, 20, 21, 22, 23, 24, 25, 26]
  refine Ps.loop (J := Nat) ⟨fun j => j ≤ 3 ∧ (1 ≤ j → chkChart ch = 0) ∧ (2 ≤ j → chkUnits un = 0) ∧ (3 ≤ j → chkCal st en = 0), fun j => [(17, i64P j)], fun _ => [], fun j => 3 - j⟩ [2, 4, 5, 17, 18, 19, 20, 21, 22, 23, 24, 25, 26] [(16, _), (15, _), (14, _), (13, _), (12, _), (11, _), (10, _), (9, _), (8, _), (7, _), (6, _), (1, _), (0, _)] 0 rfl ⟨by decide, by omega, by omega, by omega⟩ ⟨rfl, trivial⟩ (List.nil_sublist _) (fun j hj => ?_)
  obtain ⟨hj, h1, h2, h3⟩ : j ≤ 3 ∧ (1 ≤ j → chkChart ch = 0) ∧ (2 ≤ j → chkUnits un = 0) ∧ (3 ≤ j → chkCal st en = 0) := hj
  dsimp only [List.cons_append, List.nil_append]
  refine Ps.seq ?_
  refine Ps.region rfl ?_
  refine Rs.binB rfl rfl rfl rfl rfl rfl ?_
  refine Rs.nil ?_
  refine Ps.thn ?_
  refine Ps.seq ?_
  refine Ps.if rfl (fun hc => ?_) (fun hc => ?_)
  · try replace hc := dc hc
    refine Ps.skip ?_
    refine Ps.thn ?_
    refine Ps.seq ?_
    refine Ps.block ?_
    refine Ps.seq ?_
    have hlt : j < 3 := by
      have hc : (j : Int) < 3 := hc
      omega
    obtain rfl | rfl | rfl : j = 0 ∨ j = 1 ∨ j = 2 := by omega
    · refine Ps.region rfl ?_
      first | refine Rs.indexD (lc := [_]) rfl rfl rfl rfl rfl rfl rfl rfl ?_ | refine Rs.indexS (lc := [_]) rfl rfl rfl rfl rfl (by assumption) rfl rfl rfl ?_
      first | refine Rs.loadR rfl rfl rfl rfl ?_ | refine Rs.loadP 0 rfl rfl rfl rfl rfl ?_ | refine Rs.loadP 1 rfl rfl rfl rfl rfl ?_ | refine Rs.loadP 2 rfl rfl rfl rfl rfl ?_ | refine Rs.loadP 3 rfl rfl rfl rfl rfl ?_
      refine Rs.assign rfl rfl ?_
      refine Rs.nil ?_
      refine Ps.thn ?_
      refine Ps.seq ?_
      refine Ps.region rfl ?_
      refine Rs.move rfl rfl ?_
      refine Rs.callV rfl rfl rfl rfl rfl ((by first | exact checkC_ok ch cp hcw hcp hcl | exact unitsCheck_ok un up hup hul | exact calCheck_ok st en sp hsp hsl hw he)) (fun p22 hp => ?_)
      obtain rfl := hp
      refine Rs.assign rfl rfl ?_
      refine Rs.nil ?_
      refine Ps.thn ?_
      refine Ps.seq ?_
      refine Ps.region rfl ?_
      refine Rs.move rfl rfl ?_
      refine Rs.binB rfl rfl rfl rfl rfl rfl ?_
      refine Rs.nil ?_
      refine Ps.thn ?_
      refine Ps.if rfl (fun hc => ?_) (fun hc => ?_)
      · try replace hc := dc hc
        refine Ps.seq ?_
        refine Ps.region rfl ?_
        refine Rs.move rfl rfl ?_
        refine Rs.assign rfl rfl ?_
        refine Rs.nil ?_
        refine Ps.thn ?_
        refine Ps.ret ?_
        refine Ps.blk_ret ?_
        refine Ps.thn_ret ?_
        refine Ps.rnd_ret ?_
        refine Ps.blk_ret ?_
        refine Ps.thn_ret ?_
        -- leaf 1 (ret)
        refine Ps.finL rfl rfl rfl ?_
        refine congrArg (fun n => PV.lit (.int .i64 n)) ?_
        unfold chkFrame
        first
          | (rw [if_pos (by simpa using hc)]; done)
          | (rw [if_neg (by rw [h1 (by decide)]; decide), if_pos (by simpa using hc)]; done)
          | (rw [if_neg (by rw [h1 (by decide)]; decide), if_neg (by rw [h2 (by decide)]; decide)]; done)
          | (have hj3 : 3 ≤ j := by
               have hc : ¬ (j : Int) < 3 := hc
               omega
             rw [if_neg (by rw [h1 (by omega)]; decide), if_neg (by rw [h2 (by omega)]; decide), h3 hj3])
      · try replace hc := dc hc
        refine Ps.skip ?_
        refine Ps.blk ?_
        refine Ps.thn ?_
        refine Ps.region rfl ?_
        refine Rs.add rfl rfl rfl (by first | exact W_i64s (by omega) | exact W_i64 (by omega) (by omega) | rfl) ?_
        refine Rs.move rfl rfl ?_
        refine Rs.nil ?_
        -- leaf 2 (round1)
        first
          | exact Ps.round 1 ⟨by decide, fun _ => by simpa using hc, by omega, by omega⟩ (by show 3 - 1 < 3 - 0; decide) ⟨rfl, trivial⟩ (by repeat' first | exact HasL.nil | refine HasL.cons rfl ?_) (List.nil_sublist _)
          | exact Ps.round 2 ⟨by decide, fun _ => h1 (by decide), fun _ => by simpa using hc, by omega⟩ (by show 3 - 2 < 3 - 1; decide) ⟨rfl, trivial⟩ (by repeat' first | exact HasL.nil | refine HasL.cons rfl ?_) (List.nil_sublist _)
          | exact Ps.round 3 ⟨by decide, fun _ => h1 (by decide), fun _ => h2 (by decide), fun _ => by simpa using hc⟩ (by show 3 - 3 < 3 - 2; decide) ⟨rfl, trivial⟩ (by repeat' first | exact HasL.nil | refine HasL.cons rfl ?_) (List.nil_sublist _)
    · refine Ps.region rfl ?_
      first | refine Rs.indexD (lc := [_]) rfl rfl rfl rfl rfl rfl rfl rfl ?_ | refine Rs.indexS (lc := [_]) rfl rfl rfl rfl rfl (by assumption) rfl rfl rfl ?_
      first | refine Rs.loadR rfl rfl rfl rfl ?_ | refine Rs.loadP 0 rfl rfl rfl rfl rfl ?_ | refine Rs.loadP 1 rfl rfl rfl rfl rfl ?_ | refine Rs.loadP 2 rfl rfl rfl rfl rfl ?_ | refine Rs.loadP 3 rfl rfl rfl rfl rfl ?_
      refine Rs.assign rfl rfl ?_
      refine Rs.nil ?_
      refine Ps.thn ?_
      refine Ps.seq ?_
      refine Ps.region rfl ?_
      refine Rs.move rfl rfl ?_
      refine Rs.callV rfl rfl rfl rfl rfl ((by first | exact checkC_ok ch cp hcw hcp hcl | exact unitsCheck_ok un up hup hul | exact calCheck_ok st en sp hsp hsl hw he)) (fun p22 hp => ?_)
      obtain rfl := hp
      refine Rs.assign rfl rfl ?_
      refine Rs.nil ?_
      refine Ps.thn ?_
      refine Ps.seq ?_
      refine Ps.region rfl ?_
      refine Rs.move rfl rfl ?_
      refine Rs.binB rfl rfl rfl rfl rfl rfl ?_
      refine Rs.nil ?_
      refine Ps.thn ?_
      refine Ps.if rfl (fun hc => ?_) (fun hc => ?_)
      · try replace hc := dc hc
        refine Ps.seq ?_
        refine Ps.region rfl ?_
        refine Rs.move rfl rfl ?_
        refine Rs.assign rfl rfl ?_
        refine Rs.nil ?_
        refine Ps.thn ?_
        refine Ps.ret ?_
        refine Ps.blk_ret ?_
        refine Ps.thn_ret ?_
        refine Ps.rnd_ret ?_
        refine Ps.blk_ret ?_
        refine Ps.thn_ret ?_
        -- leaf 3 (ret)
        refine Ps.finL rfl rfl rfl ?_
        refine congrArg (fun n => PV.lit (.int .i64 n)) ?_
        unfold chkFrame
        first
          | (rw [if_pos (by simpa using hc)]; done)
          | (rw [if_neg (by rw [h1 (by decide)]; decide), if_pos (by simpa using hc)]; done)
          | (rw [if_neg (by rw [h1 (by decide)]; decide), if_neg (by rw [h2 (by decide)]; decide)]; done)
          | (have hj3 : 3 ≤ j := by
               have hc : ¬ (j : Int) < 3 := hc
               omega
             rw [if_neg (by rw [h1 (by omega)]; decide), if_neg (by rw [h2 (by omega)]; decide), h3 hj3])
      · try replace hc := dc hc
        refine Ps.skip ?_
        refine Ps.blk ?_
        refine Ps.thn ?_
        refine Ps.region rfl ?_
        refine Rs.add rfl rfl rfl (by first | exact W_i64s (by omega) | exact W_i64 (by omega) (by omega) | rfl) ?_
        refine Rs.move rfl rfl ?_
        refine Rs.nil ?_
        -- leaf 4 (round1)
        first
          | exact Ps.round 1 ⟨by decide, fun _ => by simpa using hc, by omega, by omega⟩ (by show 3 - 1 < 3 - 0; decide) ⟨rfl, trivial⟩ (by repeat' first | exact HasL.nil | refine HasL.cons rfl ?_) (List.nil_sublist _)
          | exact Ps.round 2 ⟨by decide, fun _ => h1 (by decide), fun _ => by simpa using hc, by omega⟩ (by show 3 - 2 < 3 - 1; decide) ⟨rfl, trivial⟩ (by repeat' first | exact HasL.nil | refine HasL.cons rfl ?_) (List.nil_sublist _)
          | exact Ps.round 3 ⟨by decide, fun _ => h1 (by decide), fun _ => h2 (by decide), fun _ => by simpa using hc⟩ (by show 3 - 3 < 3 - 2; decide) ⟨rfl, trivial⟩ (by repeat' first | exact HasL.nil | refine HasL.cons rfl ?_) (List.nil_sublist _)
    · refine Ps.region rfl ?_
      first | refine Rs.indexD (lc := [_]) rfl rfl rfl rfl rfl rfl rfl rfl ?_ | refine Rs.indexS (lc := [_]) rfl rfl rfl rfl rfl (by assumption) rfl rfl rfl ?_
      first | refine Rs.loadR rfl rfl rfl rfl ?_ | refine Rs.loadP 0 rfl rfl rfl rfl rfl ?_ | refine Rs.loadP 1 rfl rfl rfl rfl rfl ?_ | refine Rs.loadP 2 rfl rfl rfl rfl rfl ?_ | refine Rs.loadP 3 rfl rfl rfl rfl rfl ?_
      refine Rs.assign rfl rfl ?_
      refine Rs.nil ?_
      refine Ps.thn ?_
      refine Ps.seq ?_
      refine Ps.region rfl ?_
      refine Rs.move rfl rfl ?_
      refine Rs.callV rfl rfl rfl rfl rfl ((by first | exact checkC_ok ch cp hcw hcp hcl | exact unitsCheck_ok un up hup hul | exact calCheck_ok st en sp hsp hsl hw he)) (fun p22 hp => ?_)
      obtain rfl := hp
      refine Rs.assign rfl rfl ?_
      refine Rs.nil ?_
      refine Ps.thn ?_
      refine Ps.seq ?_
      refine Ps.region rfl ?_
      refine Rs.move rfl rfl ?_
      refine Rs.binB rfl rfl rfl rfl rfl rfl ?_
      refine Rs.nil ?_
      refine Ps.thn ?_
      refine Ps.if rfl (fun hc => ?_) (fun hc => ?_)
      · try replace hc := dc hc
        refine Ps.seq ?_
        refine Ps.region rfl ?_
        refine Rs.move rfl rfl ?_
        refine Rs.assign rfl rfl ?_
        refine Rs.nil ?_
        refine Ps.thn ?_
        refine Ps.ret ?_
        refine Ps.blk_ret ?_
        refine Ps.thn_ret ?_
        refine Ps.rnd_ret ?_
        refine Ps.blk_ret ?_
        refine Ps.thn_ret ?_
        -- leaf 5 (ret)
        refine Ps.finL rfl rfl rfl ?_
        refine congrArg (fun n => PV.lit (.int .i64 n)) ?_
        unfold chkFrame
        first
          | (rw [if_pos (by simpa using hc)]; done)
          | (rw [if_neg (by rw [h1 (by decide)]; decide), if_pos (by simpa using hc)]; done)
          | (rw [if_neg (by rw [h1 (by decide)]; decide), if_neg (by rw [h2 (by decide)]; decide)]; done)
          | (have hj3 : 3 ≤ j := by
               have hc : ¬ (j : Int) < 3 := hc
               omega
             rw [if_neg (by rw [h1 (by omega)]; decide), if_neg (by rw [h2 (by omega)]; decide), h3 hj3])
      · try replace hc := dc hc
        refine Ps.skip ?_
        refine Ps.blk ?_
        refine Ps.thn ?_
        refine Ps.region rfl ?_
        refine Rs.add rfl rfl rfl (by first | exact W_i64s (by omega) | exact W_i64 (by omega) (by omega) | rfl) ?_
        refine Rs.move rfl rfl ?_
        refine Rs.nil ?_
        -- leaf 6 (round1)
        first
          | exact Ps.round 1 ⟨by decide, fun _ => by simpa using hc, by omega, by omega⟩ (by show 3 - 1 < 3 - 0; decide) ⟨rfl, trivial⟩ (by repeat' first | exact HasL.nil | refine HasL.cons rfl ?_) (List.nil_sublist _)
          | exact Ps.round 2 ⟨by decide, fun _ => h1 (by decide), fun _ => by simpa using hc, by omega⟩ (by show 3 - 2 < 3 - 1; decide) ⟨rfl, trivial⟩ (by repeat' first | exact HasL.nil | refine HasL.cons rfl ?_) (List.nil_sublist _)
          | exact Ps.round 3 ⟨by decide, fun _ => h1 (by decide), fun _ => h2 (by decide), fun _ => by simpa using hc⟩ (by show 3 - 3 < 3 - 2; decide) ⟨rfl, trivial⟩ (by repeat' first | exact HasL.nil | refine HasL.cons rfl ?_) (List.nil_sublist _)
  · try replace hc := dc hc
    refine Ps.exit ?_
    refine Ps.thn_exit ?_
    refine Ps.rnd_exit ?_
    refine Ps.blk_here ?_
    refine Ps.thn ?_
    refine Ps.seq ?_
    refine Ps.region rfl ?_
    refine Rs.assign (p := .lit _) rfl rfl ?_
    refine Rs.nil ?_
    refine Ps.thn ?_
    refine Ps.ret ?_
    -- leaf 7 (ret)
    refine Ps.finL rfl rfl rfl ?_
    refine congrArg (fun n => PV.lit (.int .i64 n)) ?_
    unfold chkFrame
    first
      | (rw [if_pos (by simpa using hc)]; done)
      | (rw [if_neg (by rw [h1 (by decide)]; decide), if_pos (by simpa using hc)]; done)
      | (rw [if_neg (by rw [h1 (by decide)]; decide), if_neg (by rw [h2 (by decide)]; decide)]; done)
      | (have hj3 : 3 ≤ j := by
           have hc : ¬ (j : Int) < 3 := hc
           omega
         rw [if_neg (by rw [h1 (by omega)]; decide), if_neg (by rw [h2 (by omega)]; decide), h3 hj3])
end Go.Proofs.YtddaogebacigbaaGreatDoor.RV.T
end
section
open Go Go.Proofs.YtddaogebacigbaaGreatDoor.RV Go.Proofs.YtddaogebacigbaaGreatDoor.XA.Awk Go.Proofs.YtddaogebacigbaaGreatDoor.RV.ChartMath Go.Proofs
namespace Go.Proofs.YtddaogebacigbaaGreatDoor.RV.T
set_option maxRecDepth 100000
set_option linter.unusedVariables false
set_option linter.unusedSimpArgs false
variable {spc : Sp}
theorem made_acc {c : List Acc} (h : Made c) : ∀ a ∈ c, AccOk a := by
  intro a ha
  have h1 := h.small a ha
  have h2 := h.good.pos a ha
  have h3 := h.kinds a ha
  have h4 := h.nonneg a ha
  refine ⟨by omega, by omega, ⟨h4, ?_⟩, ?_⟩
  · rcases h.good.parent a ha with h0 | ⟨p, hp, e, _, _⟩
    · omega
    · have := h.small p hp; omega
  · obtain ⟨i, hi⟩ := h.names a ha
    rw [hi]
    match i with
    | 0 => decide
    | 1 => decide
    | 2 => decide
    | 3 => decide
    | 4 => decide
structure FrCond (ch : List Acc) (un st : List Int) (en : Int) (cp up : PV) : Prop where
  cp : IsSl 4 (ch.map accP) cp
  up : IsSl 1 (un.map u16P) up
  cw : ∀ a ∈ ch, AccOk a
  cl : ch.length < 1000000
  ul : un.length < 1000000
  sl : st.length ≤ 1000
  sw : ∀ x ∈ st, -2147483648 ≤ x ∧ x ≤ 2147483647
  en : -2147483648 ≤ en ∧ en ≤ 2147483647
theorem bookFrames_ok (hA : Fn (cfg spc) 22 [] (· = boolP true)) (l : List Acc) (lp : PV) (hlp : IsSl 4 (l.map accP) lp) (hlw : ∀ a ∈ l, AccOk a) (hll : l.length < 9223372036854775807) (u : List Int) (upp : PV) (hup : IsSl 1 (u.map u16P) upp) (hul : u.length < 9223372036854775807) (ss : List Int) (ssp : PV) (hssp : IsSl 1 (ss.map i32P) ssp) (hssl : ss.length < 9223372036854775807) (hssw : ∀ x ∈ ss, -2147483648 ≤ x ∧ x ≤ 2147483647) (e : Int) (he : -2147483648 ≤ e ∧ e ≤ 2147483647) (x : BV) (hw : BvOk x) (hx : x.js.length < 9223372036854775807) (wh : Int) (hwh : 0 ≤ wh ∧ wh ≤ 255) : Fn (cfg spc) 12 [lp, upp, ssp, i32P e, bvP x, u8P wh] (· = boolP true) := by
  refine Fn.go Tryz.func12 (L := [(0, _), (1, _), (2, _), (3, _), (4, _), (5, _)]) rfl rfl rfl (by show (deepB lp && (deepB upp && (deepB ssp && deepL [i32P e, bvP x, u8P wh]))) = true; rw [hlp.deep, hup.deep, hssp.deep]; simp [deepL, deepB, bvP, *]) rfl ?_
  refine Ps.seq ?_
  refine Ps.region rfl ?_
  refine Rs.box (l := [_, _, _, _, _]) rfl rfl rfl (by first | rfl | simp [deepB, deepL, *]) rfl ?_
  refine Rs.assign (p := .lit _) rfl rfl ?_
  refine Rs.nil ?_
  refine Ps.thn ?_
  refine Ps.seq ?_
  refine Ps.seq ?_
  refine Ps.region rfl ?_
  refine Rs.call0 rfl rfl rfl (hA) (fun p17 hp => ?_)
  obtain rfl := hp
  refine Rs.not rfl rfl ?_
  refine Rs.nil ?_
  refine Ps.thn ?_
  refine Ps.if rfl (fun hc => ?_) (fun hc => ?_)
  · try replace hc := dc hc
    refine Ps.seq ?_
    refine Ps.region rfl ?_
    refine Rs.assign (p := .lit _) rfl rfl ?_
    refine Rs.nil ?_
    refine Ps.thn ?_
    refine Ps.ret ?_
    refine Ps.thn_ret ?_
    -- leaf 1 (ret)
    first
      | (cases hc; done)
      | (refine Ps.finP (l := [_]) rfl (by refine ResR.tmp rfl ?_; exact ResR.nil) (by first | rfl | simp [plainP, plainC, cp_lit, cp_dsl, *]) rfl ?_
         first
           | rfl
           | (simp only [one, chkFrame]; simp [*]; done)
           | (simp only [one, chkFrame]; simp_all; done))
  · try replace hc := dc hc
    refine Ps.skip ?_
    refine Ps.thn ?_
    refine Ps.seq ?_
    refine Ps.seq ?_
    refine Ps.region rfl ?_
    refine Rs.loadD (p := .agg [_, _, _, _, _]) rfl rfl rfl rfl ?_
    refine Rs.call0 rfl rfl rfl (light_ok x hx) (fun p20 hp => ?_)
    obtain ⟨bl, rfl, hbl⟩ := hp
    refine Rs.not rfl rfl ?_
    refine Rs.move rfl rfl ?_
    refine Rs.guard1 (w' := true) rfl rfl rfl (fun hg => ?_) (fun hg => ?_)
    · try replace hg := dc hg
      refine Rs.move rfl rfl ?_
      refine Rs.guardT rfl ?_
      first | refine Rs.lenD rfl rfl rfl rfl ?_ | refine Rs.lenO rfl rfl rfl rfl ?_ | refine Rs.lenI rfl rfl rfl rfl ?_ | refine Rs.lenA rfl rfl rfl rfl (by assumption) ?_ | refine Rs.lenS rfl rfl rfl rfl (by assumption) ?_
      refine Rs.guardT rfl ?_
      refine Rs.binB rfl rfl rfl rfl rfl rfl ?_
      refine Rs.pickF (p := .lit _) rfl rfl rfl rfl ?_
      refine Rs.move rfl rfl ?_
      refine Rs.guard1 (w' := true) rfl rfl rfl (fun hg => ?_) (fun hg => ?_)
      · try replace hg := dc hg
        refine Rs.move rfl rfl ?_
        refine Rs.guardT rfl ?_
        first | refine Rs.lenD rfl rfl rfl rfl ?_ | refine Rs.lenO rfl rfl rfl rfl ?_ | refine Rs.lenI rfl rfl rfl rfl ?_ | refine Rs.lenA rfl rfl rfl rfl (by assumption) ?_ | refine Rs.lenS rfl rfl rfl rfl (by assumption) ?_
        refine Rs.guardT rfl ?_
        refine Rs.binB rfl rfl rfl rfl rfl rfl ?_
        refine Rs.pickF (p := .lit _) rfl rfl rfl rfl ?_
        refine Rs.move rfl rfl ?_
        refine Rs.guard1 (w' := true) rfl rfl rfl (fun hg => ?_) (fun hg => ?_)
        · try replace hg := dc hg
          refine Rs.move rfl rfl ?_
          refine Rs.guardT rfl ?_
          first | refine Rs.lenD rfl rfl rfl rfl ?_ | refine Rs.lenO rfl rfl rfl rfl ?_ | refine Rs.lenI rfl rfl rfl rfl ?_ | refine Rs.lenA rfl rfl rfl rfl (by assumption) ?_ | refine Rs.lenS rfl rfl rfl rfl (by assumption) ?_
          refine Rs.guardT rfl ?_
          refine Rs.binB rfl rfl rfl rfl rfl rfl ?_
          refine Rs.pickF (p := .lit _) rfl rfl rfl rfl ?_
          refine Rs.nil ?_
          refine Ps.thn ?_
          refine Ps.if rfl (fun hc => ?_) (fun hc => ?_)
          · try replace hc := dc hc
            refine Ps.seq ?_
            refine Ps.region rfl ?_
            refine Rs.assign (p := .lit _) rfl rfl ?_
            refine Rs.nil ?_
            refine Ps.thn ?_
            refine Ps.ret ?_
            refine Ps.thn_ret ?_
            -- leaf 2 (ret)
            first
              | (cases hc; done)
              | (refine Ps.finP (l := [_]) rfl (by refine ResR.tmp rfl ?_; exact ResR.nil) (by first | rfl | simp [plainP, plainC, cp_lit, cp_dsl, *]) rfl ?_
                 first
                   | rfl
                   | (simp only [one, chkFrame]; simp [*]; done)
                   | (simp only [one, chkFrame]; simp_all; done))
          · try replace hc := dc hc
            refine Ps.skip ?_
            refine Ps.thn ?_
            refine Ps.seq ?_
            refine Ps.region rfl ?_
            refine Rs.loadD (p := .agg [_, _, _, _, _]) rfl rfl rfl rfl ?_
            refine Rs.call0 rfl rfl rfl (frame_ok x hw (hbl (by assumption))) (fun p38 hp => ?_)
            obtain ⟨ch, un, st, en, cp, up, sp, hF, hcp, hup', hsp, rfl⟩ := hp
            obtain ⟨cd, cs, cc, cl, cq⟩ := hcp.all
            obtain ⟨ud, us, uc, ul, uq⟩ := hup'.all
            obtain ⟨sd, s_s, sc, sl, sq⟩ := hsp.all
            obtain ⟨ld, ls, lc, ll, lq⟩ := hlp.all
            obtain ⟨vd, vs, vc, vl, vq⟩ := hup.all
            obtain ⟨wd, ws, wc, wl, wq⟩ := hssp.all
            have hmu := hF.un_.len
            have hmc := hF.chart.len
            have hC := hF.cal
            have hfr := hw.first
            have hsw : ∀ x ∈ st, -2147483648 ≤ x ∧ x ≤ 2147483647 := fun x hx => by have := hC.low x hx; omega
            have hew : -2147483648 ≤ en ∧ en ≤ 2147483647 := by have := hC.low _ (List.mem_of_getElem? hC.first); have := hC.end_; omega
            have hsl13 := hC.len
            have hl30 : l.length ≤ 30 := by have e1 : (l.map accP).length = l.length := List.length_map ..; omega
            have hu50 : u.length ≤ 50 := by have e1 : (u.map u16P).length = u.length := List.length_map ..; omega
            have hs70 : ss.length ≤ 70 := by have e1 : (ss.map i32P).length = ss.length := List.length_map ..; omega
            refine Rs.alloc (z := .agg [_, _, _, _]) (c := 4) rfl rfl rfl (fun g13 => ?_)
            first | refine Rs.store0 (l' := [.agg [_, _, _, _]]) rfl rfl rfl (by first | rfl | exact storeB_ag rfl rfl rfl (by simp [scalars, sc_int, sc_str, sc_bool, sc_nil, sc_dsl, sc_own, sc_g, sc_f, *]) | exact storeB_fld rfl (by first | assumption | exact cl_g | exact cl_f) (by first | assumption | exact sc_g | exact sc_f) rfl) ?_ | refine Rs.store1 (l' := [.agg [_, _, _, _]]) rfl rfl rfl (by first | rfl | exact storeB_ag rfl rfl rfl (by simp [scalars, sc_int, sc_str, sc_bool, sc_nil, sc_dsl, sc_own, sc_g, sc_f, *]) | exact storeB_fld rfl (by first | assumption | exact cl_g | exact cl_f) (by first | assumption | exact sc_g | exact sc_f) rfl) ?_ | refine Rs.store2 (l' := [.agg [_, _, _, _]]) rfl rfl rfl (by first | rfl | exact storeB_ag rfl rfl rfl (by simp [scalars, sc_int, sc_str, sc_bool, sc_nil, sc_dsl, sc_own, sc_g, sc_f, *]) | exact storeB_fld rfl (by first | assumption | exact cl_g | exact cl_f) (by first | assumption | exact sc_g | exact sc_f) rfl) ?_ | refine Rs.store3 (l' := [.agg [_, _, _, _]]) rfl rfl rfl (by first | rfl | exact storeB_ag rfl rfl rfl (by simp [scalars, sc_int, sc_str, sc_bool, sc_nil, sc_dsl, sc_own, sc_g, sc_f, *]) | exact storeB_fld rfl (by first | assumption | exact cl_g | exact cl_f) (by first | assumption | exact sc_g | exact sc_f) rfl) ?_
            refine Rs.nil ?_
            refine Ps.thn ?_
            refine Ps.seq ?_
            refine Ps.seq ?_
            refine Ps.region rfl ?_
            refine Rs.move rfl rfl ?_
            refine Rs.rem rfl rfl rfl (by omega) (by first | exact Int.tmod_eq_emod_of_nonneg (by omega) | rfl) ?_
            refine Rs.binB rfl rfl rfl rfl rfl rfl ?_
            refine Rs.nil ?_
            refine Ps.thn ?_
            refine Ps.join (J := List Acc × PV) ⟨fun j => IsSl 4 (j.1.map accP) j.2 ∧ (∀ a ∈ j.1, AccOk a) ∧ j.1.length < 1000000, fun _ => [], fun j => [(g13, 0, .blk 4 [.agg [j.2, up, sp, i32P en]] true)], fun _ => 0⟩ [41, 42, 43] ((40, _) :: (39, _) :: (13, _) :: (38, _) :: (37, _) :: (36, _) :: (35, _) :: (34, _) :: (33, _) :: (32, _) :: (31, _) :: (30, _) :: (29, _) :: (28, _) :: (27, _) :: (26, _) :: (25, _) :: (24, _) :: (23, _) :: (22, _) :: (21, _) :: (20, _) :: (19, _) :: (18, _) :: (17, _) :: (12, _) :: (10, _) :: (0, _) :: (1, _) :: (2, _) :: (3, _) :: (4, _) :: (5, _) :: []) rfl ?_ (fun j hj => ?_)
            · refine Ps.if rfl (fun hc => ?_) (fun hc => ?_)
              · try replace hc := dc hc
                refine Ps.region rfl ?_
                refine Rs.move rfl rfl ?_
                first | refine Rs.fieldAddrD (off' := 0) rfl rfl rfl rfl ?_ | refine Rs.fieldAddrP (off' := 0) rfl rfl rfl rfl ?_
                first | refine Rs.store0 (l' := [.agg [_, _, _, _]]) rfl rfl rfl (by first | rfl | exact storeB_ag rfl rfl rfl (by simp [scalars, sc_int, sc_str, sc_bool, sc_nil, sc_dsl, sc_own, sc_g, sc_f, *]) | exact storeB_fld rfl (by first | assumption | exact cl_g | exact cl_f) (by first | assumption | exact sc_g | exact sc_f) rfl) ?_ | refine Rs.store1 (l' := [.agg [_, _, _, _]]) rfl rfl rfl (by first | rfl | exact storeB_ag rfl rfl rfl (by simp [scalars, sc_int, sc_str, sc_bool, sc_nil, sc_dsl, sc_own, sc_g, sc_f, *]) | exact storeB_fld rfl (by first | assumption | exact cl_g | exact cl_f) (by first | assumption | exact sc_g | exact sc_f) rfl) ?_ | refine Rs.store2 (l' := [.agg [_, _, _, _]]) rfl rfl rfl (by first | rfl | exact storeB_ag rfl rfl rfl (by simp [scalars, sc_int, sc_str, sc_bool, sc_nil, sc_dsl, sc_own, sc_g, sc_f, *]) | exact storeB_fld rfl (by first | assumption | exact cl_g | exact cl_f) (by first | assumption | exact sc_g | exact sc_f) rfl) ?_ | refine Rs.store3 (l' := [.agg [_, _, _, _]]) rfl rfl rfl (by first | rfl | exact storeB_ag rfl rfl rfl (by simp [scalars, sc_int, sc_str, sc_bool, sc_nil, sc_dsl, sc_own, sc_g, sc_f, *]) | exact storeB_fld rfl (by first | assumption | exact cl_g | exact cl_f) (by first | assumption | exact sc_g | exact sc_f) rfl) ?_
                refine Rs.nil ?_
                -- leaf 3 (join8)
                first
                  | (refine Ps.joined (l, lp) ⟨hlp, hlw, by show l.length < 1000000; omega⟩ trivial ?_ ?_; exact (by repeat' first | exact HasL.nil | refine HasL.cons rfl ?_); exact List.Sublist.refl _)
                  | (refine Ps.joined (ch, cp) ⟨hcp, made_acc hF.chart, by show ch.length < 1000000; omega⟩ trivial ?_ ?_; exact (by repeat' first | exact HasL.nil | refine HasL.cons rfl ?_); exact List.Sublist.refl _)
              · try replace hc := dc hc
                refine Ps.skip ?_
                -- leaf 4 (join8)
                first
                  | (refine Ps.joined (l, lp) ⟨hlp, hlw, by show l.length < 1000000; omega⟩ trivial ?_ ?_; exact (by repeat' first | exact HasL.nil | refine HasL.cons rfl ?_); exact List.Sublist.refl _)
                  | (refine Ps.joined (ch, cp) ⟨hcp, made_acc hF.chart, by show ch.length < 1000000; omega⟩ trivial ?_ ?_; exact (by repeat' first | exact HasL.nil | refine HasL.cons rfl ?_); exact List.Sublist.refl _)
            · dsimp only [List.cons_append, List.nil_append]
              obtain ⟨ch', cp'⟩ := j
              obtain ⟨kcp, kcw, kcl⟩ : IsSl 4 (ch'.map accP) cp' ∧ (∀ a ∈ ch', AccOk a) ∧ ch'.length < 1000000 := hj
              obtain ⟨kd, ks, kc, kl, kq⟩ := kcp.all
              refine Ps.seq ?_
              refine Ps.seq ?_
              refine Ps.region rfl ?_
              refine Rs.move rfl rfl ?_
              refine Rs.quo rfl rfl rfl (by omega) (by first | exact Q_u8 (by omega) (by omega) (by omega) | rfl) ?_
              refine Rs.rem rfl rfl rfl (by omega) (by first | exact Int.tmod_eq_emod_of_nonneg (by omega) | rfl) ?_
              refine Rs.binB rfl rfl rfl rfl rfl rfl ?_
              refine Rs.nil ?_
              refine Ps.thn ?_
              refine Ps.join (J := List Int × PV) ⟨fun j => IsSl 1 (j.1.map u16P) j.2 ∧ j.1.length < 1000000, fun _ => [], fun j => [(g13, 0, .blk 4 [.agg [cp', j.2, sp, i32P en]] true)], fun _ => 0⟩ [47, 48, 49] ((46, _) :: (45, _) :: (44, _) :: (40, _) :: (39, _) :: (13, _) :: (38, _) :: (37, _) :: (36, _) :: (35, _) :: (34, _) :: (33, _) :: (32, _) :: (31, _) :: (30, _) :: (29, _) :: (28, _) :: (27, _) :: (26, _) :: (25, _) :: (24, _) :: (23, _) :: (22, _) :: (21, _) :: (20, _) :: (19, _) :: (18, _) :: (17, _) :: (12, _) :: (10, _) :: (0, _) :: (1, _) :: (2, _) :: (3, _) :: (4, _) :: (5, _) :: []) rfl ?_ (fun j hj => ?_)
              · refine Ps.if rfl (fun hc => ?_) (fun hc => ?_)
                · try replace hc := dc hc
                  refine Ps.region rfl ?_
                  refine Rs.move rfl rfl ?_
                  first | refine Rs.fieldAddrD (off' := 1) rfl rfl rfl rfl ?_ | refine Rs.fieldAddrP (off' := 1) rfl rfl rfl rfl ?_
                  first | refine Rs.store0 (l' := [.agg [_, _, _, _]]) rfl rfl rfl (by first | rfl | exact storeB_ag rfl rfl rfl (by simp [scalars, sc_int, sc_str, sc_bool, sc_nil, sc_dsl, sc_own, sc_g, sc_f, *]) | exact storeB_fld rfl (by first | assumption | exact cl_g | exact cl_f) (by first | assumption | exact sc_g | exact sc_f) rfl) ?_ | refine Rs.store1 (l' := [.agg [_, _, _, _]]) rfl rfl rfl (by first | rfl | exact storeB_ag rfl rfl rfl (by simp [scalars, sc_int, sc_str, sc_bool, sc_nil, sc_dsl, sc_own, sc_g, sc_f, *]) | exact storeB_fld rfl (by first | assumption | exact cl_g | exact cl_f) (by first | assumption | exact sc_g | exact sc_f) rfl) ?_ | refine Rs.store2 (l' := [.agg [_, _, _, _]]) rfl rfl rfl (by first | rfl | exact storeB_ag rfl rfl rfl (by simp [scalars, sc_int, sc_str, sc_bool, sc_nil, sc_dsl, sc_own, sc_g, sc_f, *]) | exact storeB_fld rfl (by first | assumption | exact cl_g | exact cl_f) (by first | assumption | exact sc_g | exact sc_f) rfl) ?_ | refine Rs.store3 (l' := [.agg [_, _, _, _]]) rfl rfl rfl (by first | rfl | exact storeB_ag rfl rfl rfl (by simp [scalars, sc_int, sc_str, sc_bool, sc_nil, sc_dsl, sc_own, sc_g, sc_f, *]) | exact storeB_fld rfl (by first | assumption | exact cl_g | exact cl_f) (by first | assumption | exact sc_g | exact sc_f) rfl) ?_
                  refine Rs.nil ?_
                  -- leaf 5 (join10)
                  first
                    | (refine Ps.joined (u, upp) ⟨hup, by show u.length < 1000000; omega⟩ trivial ?_ ?_; exact (by repeat' first | exact HasL.nil | refine HasL.cons rfl ?_); exact List.Sublist.refl _)
                    | (refine Ps.joined (un, up) ⟨hup', by show un.length < 1000000; omega⟩ trivial ?_ ?_; exact (by repeat' first | exact HasL.nil | refine HasL.cons rfl ?_); exact List.Sublist.refl _)
                · try replace hc := dc hc
                  refine Ps.skip ?_
                  -- leaf 6 (join10)
                  first
                    | (refine Ps.joined (u, upp) ⟨hup, by show u.length < 1000000; omega⟩ trivial ?_ ?_; exact (by repeat' first | exact HasL.nil | refine HasL.cons rfl ?_); exact List.Sublist.refl _)
                    | (refine Ps.joined (un, up) ⟨hup', by show un.length < 1000000; omega⟩ trivial ?_ ?_; exact (by repeat' first | exact HasL.nil | refine HasL.cons rfl ?_); exact List.Sublist.refl _)
              · dsimp only [List.cons_append, List.nil_append]
                obtain ⟨un', up'⟩ := j
                obtain ⟨kup, kul⟩ : IsSl 1 (un'.map u16P) up' ∧ un'.length < 1000000 := hj
                obtain ⟨jd, js, jc, jl, jq⟩ := kup.all
                refine Ps.seq ?_
                refine Ps.seq ?_
                refine Ps.region rfl ?_
                refine Rs.move rfl rfl ?_
                refine Rs.quo rfl rfl rfl (by omega) (by first | exact Q_u8 (by omega) (by omega) (by omega) | rfl) ?_
                refine Rs.rem rfl rfl rfl (by omega) (by first | exact Int.tmod_eq_emod_of_nonneg (by omega) | rfl) ?_
                refine Rs.binB rfl rfl rfl rfl rfl rfl ?_
                refine Rs.nil ?_
                refine Ps.thn ?_
                refine Ps.if rfl (fun hc => ?_) (fun hc => ?_)
                · try replace hc := dc hc
                  refine Ps.seq ?_
                  refine Ps.region rfl ?_
                  refine Rs.move rfl rfl ?_
                  refine Rs.buildB (cs := [(1, [_])]) (l := [_, _]) rfl rfl (by first | rfl | simp only [cellsOf]; rfl) rfl ?_
                  first | refine Rs.fieldAddrD (off' := 2) rfl rfl rfl rfl ?_ | refine Rs.fieldAddrP (off' := 2) rfl rfl rfl rfl ?_
                  first | refine Rs.store0 (l' := [.agg [_, _, _, _]]) rfl rfl rfl (by first | rfl | exact storeB_ag rfl rfl rfl (by simp [scalars, sc_int, sc_str, sc_bool, sc_nil, sc_dsl, sc_own, sc_g, sc_f, *]) | exact storeB_fld rfl (by first | assumption | exact cl_g | exact cl_f) (by first | assumption | exact sc_g | exact sc_f) rfl) ?_ | refine Rs.store1 (l' := [.agg [_, _, _, _]]) rfl rfl rfl (by first | rfl | exact storeB_ag rfl rfl rfl (by simp [scalars, sc_int, sc_str, sc_bool, sc_nil, sc_dsl, sc_own, sc_g, sc_f, *]) | exact storeB_fld rfl (by first | assumption | exact cl_g | exact cl_f) (by first | assumption | exact sc_g | exact sc_f) rfl) ?_ | refine Rs.store2 (l' := [.agg [_, _, _, _]]) rfl rfl rfl (by first | rfl | exact storeB_ag rfl rfl rfl (by simp [scalars, sc_int, sc_str, sc_bool, sc_nil, sc_dsl, sc_own, sc_g, sc_f, *]) | exact storeB_fld rfl (by first | assumption | exact cl_g | exact cl_f) (by first | assumption | exact sc_g | exact sc_f) rfl) ?_ | refine Rs.store3 (l' := [.agg [_, _, _, _]]) rfl rfl rfl (by first | rfl | exact storeB_ag rfl rfl rfl (by simp [scalars, sc_int, sc_str, sc_bool, sc_nil, sc_dsl, sc_own, sc_g, sc_f, *]) | exact storeB_fld rfl (by first | assumption | exact cl_g | exact cl_f) (by first | assumption | exact sc_g | exact sc_f) rfl) ?_
                  refine Rs.nil ?_
                  refine Ps.thn ?_
                  refine Ps.seq ?_
                  refine Ps.region rfl ?_
                  refine Rs.move rfl rfl ?_
                  first | refine Rs.lenD rfl rfl rfl rfl ?_ | refine Rs.lenO rfl rfl rfl rfl ?_ | refine Rs.lenI rfl rfl rfl rfl ?_ | refine Rs.lenA rfl rfl rfl rfl (by assumption) ?_ | refine Rs.lenS rfl rfl rfl rfl (by assumption) ?_
                  refine Rs.move (p := .lit _) rfl rfl ?_
                  refine Rs.nil ?_
                  refine Ps.thn ?_
                  refine Ps.block ?_
                  -- loop 1 writes [15, 59, 60, 61, 62, 63, 64, 65, 66, 67, 68, 69, 70, 71]
                  refine Ps.loop (J := Nat × Option (Nat × Nat)) ⟨fun j => j.1 ≤ ss.length ∧ (j.2 = none ↔ (ss.take j.1).map i32P = []), fun j => [(59, i64P j.1)], fun j => (g13, 0, .blk 4 [.agg [cp', up', gP 1 j.2 ((ss.take j.1).map i32P), i32P e]] true) :: (gM 1 j.2 ((ss.take j.1).map i32P) ++ []), fun j => ss.length - j.1⟩ [15, 59, 60, 61, 62, 63, 64, 65, 66, 67, 68, 69, 70, 71] ((58, _) :: (57, _) :: (56, _) :: (55, _) :: (54, _) :: (53, _) :: (52, _) :: (51, _) :: (50, _) :: (46, _) :: (45, _) :: (44, _) :: (40, _) :: (39, _) :: (13, _) :: (38, _) :: (37, _) :: (36, _) :: (35, _) :: (34, _) :: (33, _) :: (32, _) :: (31, _) :: (30, _) :: (29, _) :: (28, _) :: (27, _) :: (26, _) :: (25, _) :: (24, _) :: (23, _) :: (22, _) :: (21, _) :: (20, _) :: (19, _) :: (18, _) :: (17, _) :: (12, _) :: (10, _) :: (0, _) :: (1, _) :: (2, _) :: (3, _) :: (4, _) :: (5, _) :: []) (0, none) rfl ⟨Nat.zero_le _, by simp⟩ ⟨rfl, trivial⟩ (by repeat' first | exact List.Sublist.refl _ | exact List.nil_sublist _ | exact List.sublist_append_left _ _ | refine List.Sublist.cons_cons _ ?_ | refine List.Sublist.cons _ ?_) (fun j hj => ?_)
                  obtain ⟨j, a⟩ := j
                  obtain ⟨hj, ha⟩ : j ≤ ss.length ∧ (a = none ↔ (ss.take j).map i32P = []) := hj
                  dsimp only [List.cons_append, List.nil_append]
                  refine Ps.seq ?_
                  refine Ps.region rfl ?_
                  refine Rs.binB rfl rfl rfl rfl rfl rfl ?_
                  refine Rs.nil ?_
                  refine Ps.thn ?_
                  refine Ps.seq ?_
                  refine Ps.if rfl (fun hc => ?_) (fun hc => ?_)
                  · try replace hc := dc hc
                    refine Ps.skip ?_
                    refine Ps.thn ?_
                    refine Ps.seq ?_
                    refine Ps.block ?_
                    refine Ps.seq ?_
                    have hlt : j < ss.length := by simp at hc; omega
                    obtain ⟨y, hy⟩ := at_lt hlt
                    have etk : List.map i32P (ss.take j) ++ [i32P y] = List.map i32P (ss.take (j + 1)) := by rw [List.take_add_one, hy, List.map_append]; rfl
                    refine Ps.region rfl ?_
                    first | refine Rs.indexD (lc := [_]) rfl rfl rfl rfl rfl rfl (map_at hy) rfl ?_ | refine Rs.indexS (lc := [_]) rfl rfl rfl rfl rfl (by assumption) rfl (map_at hy) rfl ?_
                    first | refine Rs.loadR rfl rfl rfl rfl ?_ | refine Rs.loadP 0 rfl rfl rfl rfl rfl ?_ | refine Rs.loadP 1 rfl rfl rfl rfl rfl ?_ | refine Rs.loadP 2 rfl rfl rfl rfl rfl ?_ | refine Rs.loadP 3 rfl rfl rfl rfl rfl ?_
                    refine Rs.assign rfl rfl ?_
                    refine Rs.nil ?_
                    refine Ps.thn ?_
                    refine Ps.region rfl ?_
                    first | refine Rs.fieldAddrD (off' := 2) rfl rfl rfl rfl ?_ | refine Rs.fieldAddrP (off' := 2) rfl rfl rfl rfl ?_
                    first | refine Rs.fieldAddrD (off' := 2) rfl rfl rfl rfl ?_ | refine Rs.fieldAddrP (off' := 2) rfl rfl rfl rfl ?_
                    first | refine Rs.loadR rfl rfl rfl rfl ?_ | refine Rs.loadP 0 rfl rfl rfl rfl rfl ?_ | refine Rs.loadP 1 rfl rfl rfl rfl rfl ?_ | refine Rs.loadP 2 rfl rfl rfl rfl rfl ?_ | refine Rs.loadP 3 rfl rfl rfl rfl rfl ?_
                    refine Rs.move rfl rfl ?_
                    refine Rs.buildSlice (l := [_]) rfl rfl rfl rfl (by first | rfl | simp [deepL, deepB, *]) ?_
                    first | refine Rs.append0 1 4 rfl rfl ⟨_, rfl⟩ rfl rfl rfl rfl rfl rfl rfl rfl rfl rfl (by assumption) rfl (by first | rfl | simp [scalarsE, scalars, PV.cells, sc_int, sc_str, sc_bool, sc_nil, sc_dsl, *]) (by simp; omega) (fun a68 ha68 => ?_) | refine Rs.append1 1 4 rfl rfl ⟨_, rfl⟩ rfl rfl rfl rfl rfl rfl rfl rfl rfl rfl (by assumption) rfl (by first | rfl | simp [scalarsE, scalars, PV.cells, sc_int, sc_str, sc_bool, sc_nil, sc_dsl, *]) (by simp; omega) (fun a68 ha68 => ?_) | refine Rs.append2 1 4 rfl rfl ⟨_, rfl⟩ rfl rfl rfl rfl rfl rfl rfl rfl rfl rfl (by assumption) rfl (by first | rfl | simp [scalarsE, scalars, PV.cells, sc_int, sc_str, sc_bool, sc_nil, sc_dsl, *]) (by simp; omega) (fun a68 ha68 => ?_) | refine Rs.append3 1 4 rfl rfl ⟨_, rfl⟩ rfl rfl rfl rfl rfl rfl rfl rfl rfl rfl (by assumption) rfl (by first | rfl | simp [scalarsE, scalars, PV.cells, sc_int, sc_str, sc_bool, sc_nil, sc_dsl, *]) (by simp; omega) (fun a68 ha68 => ?_)
                    first | refine Rs.fieldAddrD (off' := 2) rfl rfl rfl rfl ?_ | refine Rs.fieldAddrP (off' := 2) rfl rfl rfl rfl ?_
                    first | refine Rs.fieldAddrD (off' := 2) rfl rfl rfl rfl ?_ | refine Rs.fieldAddrP (off' := 2) rfl rfl rfl rfl ?_
                    first | refine Rs.store0 (l' := [.agg [_, _, _, _]]) rfl rfl rfl (by first | rfl | exact storeB_ag rfl rfl rfl (by simp [scalars, sc_int, sc_str, sc_bool, sc_nil, sc_dsl, sc_own, sc_g, sc_f, *]) | exact storeB_fld rfl (by first | assumption | exact cl_g | exact cl_f) (by first | assumption | exact sc_g | exact sc_f) rfl) ?_ | refine Rs.store1 (l' := [.agg [_, _, _, _]]) rfl rfl rfl (by first | rfl | exact storeB_ag rfl rfl rfl (by simp [scalars, sc_int, sc_str, sc_bool, sc_nil, sc_dsl, sc_own, sc_g, sc_f, *]) | exact storeB_fld rfl (by first | assumption | exact cl_g | exact cl_f) (by first | assumption | exact sc_g | exact sc_f) rfl) ?_ | refine Rs.store2 (l' := [.agg [_, _, _, _]]) rfl rfl rfl (by first | rfl | exact storeB_ag rfl rfl rfl (by simp [scalars, sc_int, sc_str, sc_bool, sc_nil, sc_dsl, sc_own, sc_g, sc_f, *]) | exact storeB_fld rfl (by first | assumption | exact cl_g | exact cl_f) (by first | assumption | exact sc_g | exact sc_f) rfl) ?_ | refine Rs.store3 (l' := [.agg [_, _, _, _]]) rfl rfl rfl (by first | rfl | exact storeB_ag rfl rfl rfl (by simp [scalars, sc_int, sc_str, sc_bool, sc_nil, sc_dsl, sc_own, sc_g, sc_f, *]) | exact storeB_fld rfl (by first | assumption | exact cl_g | exact cl_f) (by first | assumption | exact sc_g | exact sc_f) rfl) ?_
                    refine Rs.nil ?_
                    refine Ps.blk ?_
                    refine Ps.thn ?_
                    refine Ps.region rfl ?_
                    refine Rs.add rfl rfl rfl (by first | exact W_i64s (by omega) | exact W_i64 (by omega) (by omega) | rfl) ?_
                    refine Rs.move rfl rfl ?_
                    refine Rs.nil ?_
                    -- leaf 7 (round1)
                    rw [etk] at ha68 ⊢
                    exact Ps.round (j + 1, a68) ⟨hlt, ha68⟩ (by show ss.length - (j + 1) < ss.length - j; omega) ⟨rfl, trivial⟩ (by repeat' first | exact HasL.nil | refine HasL.cons rfl ?_) (by repeat' first | exact List.Sublist.refl _ | exact List.nil_sublist _ | exact List.sublist_append_left _ _ | refine List.Sublist.cons_cons _ ?_ | refine List.Sublist.cons _ ?_)
                  · try replace hc := dc hc
                    refine Ps.exit ?_
                    refine Ps.thn_exit ?_
                    refine Ps.rnd_exit ?_
                    refine Ps.blk_here ?_
                    refine Ps.thn ?_
                    refine Ps.seq ?_
                    refine Ps.region rfl ?_
                    first | refine Rs.fieldAddrD (off' := 0) rfl rfl rfl rfl ?_ | refine Rs.fieldAddrP (off' := 0) rfl rfl rfl rfl ?_
                    first | refine Rs.loadR rfl rfl rfl rfl ?_ | refine Rs.loadP 0 rfl rfl rfl rfl rfl ?_ | refine Rs.loadP 1 rfl rfl rfl rfl rfl ?_ | refine Rs.loadP 2 rfl rfl rfl rfl rfl ?_ | refine Rs.loadP 3 rfl rfl rfl rfl rfl ?_
                    refine Rs.call0 rfl rfl rfl (check6_ok _ _ kcw kcp kcl) (fun p74 hp => ?_)
                    obtain rfl := hp
                    refine Rs.assign rfl rfl ?_
                    refine Rs.nil ?_
                    refine Ps.thn ?_
                    refine Ps.seq ?_
                    refine Ps.seq ?_
                    refine Ps.region rfl ?_
                    refine Rs.move rfl rfl ?_
                    refine Rs.binB rfl rfl rfl rfl rfl rfl ?_
                    refine Rs.nil ?_
                    refine Ps.thn ?_
                    refine Ps.if rfl (fun hc => ?_) (fun hc => ?_)
                    · try replace hc := dc hc
                      refine Ps.region rfl ?_
                      first | refine Rs.fieldAddrD (off' := 1) rfl rfl rfl rfl ?_ | refine Rs.fieldAddrP (off' := 1) rfl rfl rfl rfl ?_
                      first | refine Rs.loadR rfl rfl rfl rfl ?_ | refine Rs.loadP 0 rfl rfl rfl rfl rfl ?_ | refine Rs.loadP 1 rfl rfl rfl rfl rfl ?_ | refine Rs.loadP 2 rfl rfl rfl rfl rfl ?_ | refine Rs.loadP 3 rfl rfl rfl rfl rfl ?_
                      refine Rs.call0 rfl rfl rfl (unitsCheck_ok _ _ kup kul) (fun p79 hp => ?_)
                      obtain rfl := hp
                      refine Rs.assign rfl rfl ?_
                      refine Rs.nil ?_
                      refine Ps.thn ?_
                      refine Ps.seq ?_
                      refine Ps.seq ?_
                      refine Ps.region rfl ?_
                      refine Rs.move rfl rfl ?_
                      refine Rs.binB rfl rfl rfl rfl rfl rfl ?_
                      refine Rs.nil ?_
                      refine Ps.thn ?_
                      refine Ps.if rfl (fun hc => ?_) (fun hc => ?_)
                      · try replace hc := dc hc
                        refine Ps.region rfl ?_
                        first | refine Rs.fieldAddrD (off' := 2) rfl rfl rfl rfl ?_ | refine Rs.fieldAddrP (off' := 2) rfl rfl rfl rfl ?_
                        first | refine Rs.loadR (p := .agg [_, _]) rfl rfl rfl rfl ?_ | refine Rs.loadP (p := .agg [_, _]) 0 rfl rfl rfl rfl rfl ?_ | refine Rs.loadP (p := .agg [_, _]) 1 rfl rfl rfl rfl rfl ?_ | refine Rs.loadP (p := .agg [_, _]) 2 rfl rfl rfl rfl rfl ?_ | refine Rs.loadP (p := .agg [_, _]) 3 rfl rfl rfl rfl rfl ?_
                        refine Rs.call1 rfl rfl rfl (fun H hH => DpL.top (n := 98000) (by repeat' first | exact DpL.nil | apply DpL.cons (Dp.plain _ rfl rfl) | apply DpL.cons (Dp.sl _ (by assumption)) | apply DpL.cons (Dp.up (Dp.g (by assumption) hH (fun x hx => by first | (simp [hx]; done) | exact List.mem_cons_of_mem _ (List.mem_append_left _ hx) | exact List.mem_cons_of_mem _ (List.mem_cons_of_mem _ (List.mem_append_left _ hx)) | exact List.mem_append_left _ hx) (by intro p hp; obtain ⟨x, _, rfl⟩ := List.mem_map.1 hp; rfl) (by simp; omega)) rfl) | apply DpL.cons (Dp.agg (n := 96000) ?_ rfl)) rfl) ((by first | exact calCheck_ok st en sp hsp (by omega) hsw hew | exact calCheck_ok _ _ _ (slP_is 1 _) (by simp; omega) (fun x hx => hssw x (List.mem_of_mem_take hx)) he)) (by first | (intro p hp; rw [hp]; rfl) | (rintro p ⟨r, rfl, _⟩; rfl)) (fun p84 hp => ?_)
                        obtain rfl := hp
                        refine Rs.assign rfl rfl ?_
                        refine Rs.nil ?_
                        refine Ps.thn ?_
                        refine Ps.seq ?_
                        refine Ps.region rfl ?_
                        first | refine Rs.loadR (p := .agg [_, _, _, _]) rfl rfl rfl rfl ?_ | refine Rs.loadP (p := .agg [_, _, _, _]) 0 rfl rfl rfl rfl rfl ?_ | refine Rs.loadP (p := .agg [_, _, _, _]) 1 rfl rfl rfl rfl rfl ?_ | refine Rs.loadP (p := .agg [_, _, _, _]) 2 rfl rfl rfl rfl rfl ?_ | refine Rs.loadP (p := .agg [_, _, _, _]) 3 rfl rfl rfl rfl rfl ?_
                        refine Rs.call1 rfl rfl rfl (fun H hH => DpL.top (n := 98000) (by repeat' first | exact DpL.nil | apply DpL.cons (Dp.plain _ rfl rfl) | apply DpL.cons (Dp.sl _ (by assumption)) | apply DpL.cons (Dp.up (Dp.g (by assumption) hH (fun x hx => by first | (simp [hx]; done) | exact List.mem_cons_of_mem _ (List.mem_append_left _ hx) | exact List.mem_cons_of_mem _ (List.mem_cons_of_mem _ (List.mem_append_left _ hx)) | exact List.mem_append_left _ hx) (by intro p hp; obtain ⟨x, _, rfl⟩ := List.mem_map.1 hp; rfl) (by simp; omega)) rfl) | apply DpL.cons (Dp.agg (n := 96000) ?_ rfl)) rfl) ((by first | exact frameCheck_ok ch' un' st en cp' up' sp kcp kup hsp kcw kcl kul (by omega) hsw hew | exact frameCheck_ok _ _ _ _ _ _ _ kcp kup (slP_is 1 _) kcw kcl kul (by simp; omega) (fun x hx => hssw x (List.mem_of_mem_take hx)) he)) (by first | (intro p hp; rw [hp]; rfl) | (rintro p ⟨r, rfl, _⟩; rfl)) (fun p86 hp => ?_)
                        obtain rfl := hp
                        refine Rs.move rfl rfl ?_
                        refine Rs.binB rfl rfl rfl rfl rfl rfl ?_
                        refine Rs.assign rfl rfl ?_
                        refine Rs.nil ?_
                        refine Ps.thn ?_
                        refine Ps.ret ?_
                        -- leaf 8 (ret)
                        first
                          | (cases hc; done)
                          | (refine Ps.finP (l := [_]) rfl (by refine ResR.tmp rfl ?_; exact ResR.nil) (by first | rfl | simp [plainP, plainC, cp_lit, cp_dsl, *]) rfl ?_
                             first
                               | rfl
                               | (simp only [one, chkFrame]; simp [*]; done)
                               | (simp only [one, chkFrame]; simp_all; done))
                      · try replace hc := dc hc
                        refine Ps.skip ?_
                        refine Ps.thn ?_
                        refine Ps.seq ?_
                        refine Ps.region rfl ?_
                        first | refine Rs.loadR (p := .agg [_, _, _, _]) rfl rfl rfl rfl ?_ | refine Rs.loadP (p := .agg [_, _, _, _]) 0 rfl rfl rfl rfl rfl ?_ | refine Rs.loadP (p := .agg [_, _, _, _]) 1 rfl rfl rfl rfl rfl ?_ | refine Rs.loadP (p := .agg [_, _, _, _]) 2 rfl rfl rfl rfl rfl ?_ | refine Rs.loadP (p := .agg [_, _, _, _]) 3 rfl rfl rfl rfl rfl ?_
                        refine Rs.call1 rfl rfl rfl (fun H hH => DpL.top (n := 98000) (by repeat' first | exact DpL.nil | apply DpL.cons (Dp.plain _ rfl rfl) | apply DpL.cons (Dp.sl _ (by assumption)) | apply DpL.cons (Dp.up (Dp.g (by assumption) hH (fun x hx => by first | (simp [hx]; done) | exact List.mem_cons_of_mem _ (List.mem_append_left _ hx) | exact List.mem_cons_of_mem _ (List.mem_cons_of_mem _ (List.mem_append_left _ hx)) | exact List.mem_append_left _ hx) (by intro p hp; obtain ⟨x, _, rfl⟩ := List.mem_map.1 hp; rfl) (by simp; omega)) rfl) | apply DpL.cons (Dp.agg (n := 96000) ?_ rfl)) rfl) ((by first | exact frameCheck_ok ch' un' st en cp' up' sp kcp kup hsp kcw kcl kul (by omega) hsw hew | exact frameCheck_ok _ _ _ _ _ _ _ kcp kup (slP_is 1 _) kcw kcl kul (by simp; omega) (fun x hx => hssw x (List.mem_of_mem_take hx)) he)) (by first | (intro p hp; rw [hp]; rfl) | (rintro p ⟨r, rfl, _⟩; rfl)) (fun p86 hp => ?_)
                        obtain rfl := hp
                        refine Rs.move rfl rfl ?_
                        refine Rs.binB rfl rfl rfl rfl rfl rfl ?_
                        refine Rs.assign rfl rfl ?_
                        refine Rs.nil ?_
                        refine Ps.thn ?_
                        refine Ps.ret ?_
                        -- leaf 9 (ret)
                        first
                          | (cases hc; done)
                          | (refine Ps.finP (l := [_]) rfl (by refine ResR.tmp rfl ?_; exact ResR.nil) (by first | rfl | simp [plainP, plainC, cp_lit, cp_dsl, *]) rfl ?_
                             first
                               | rfl
                               | (simp only [one, chkFrame]; simp [*]; done)
                               | (simp only [one, chkFrame]; simp_all; done))
                    · try replace hc := dc hc
                      refine Ps.skip ?_
                      refine Ps.thn ?_
                      refine Ps.seq ?_
                      refine Ps.seq ?_
                      refine Ps.region rfl ?_
                      refine Rs.move rfl rfl ?_
                      refine Rs.binB rfl rfl rfl rfl rfl rfl ?_
                      refine Rs.nil ?_
                      refine Ps.thn ?_
                      refine Ps.if rfl (fun hc => ?_) (fun hc => ?_)
                      · try replace hc := dc hc
                        refine Ps.region rfl ?_
                        first | refine Rs.fieldAddrD (off' := 2) rfl rfl rfl rfl ?_ | refine Rs.fieldAddrP (off' := 2) rfl rfl rfl rfl ?_
                        first | refine Rs.loadR (p := .agg [_, _]) rfl rfl rfl rfl ?_ | refine Rs.loadP (p := .agg [_, _]) 0 rfl rfl rfl rfl rfl ?_ | refine Rs.loadP (p := .agg [_, _]) 1 rfl rfl rfl rfl rfl ?_ | refine Rs.loadP (p := .agg [_, _]) 2 rfl rfl rfl rfl rfl ?_ | refine Rs.loadP (p := .agg [_, _]) 3 rfl rfl rfl rfl rfl ?_
                        refine Rs.call1 rfl rfl rfl (fun H hH => DpL.top (n := 98000) (by repeat' first | exact DpL.nil | apply DpL.cons (Dp.plain _ rfl rfl) | apply DpL.cons (Dp.sl _ (by assumption)) | apply DpL.cons (Dp.up (Dp.g (by assumption) hH (fun x hx => by first | (simp [hx]; done) | exact List.mem_cons_of_mem _ (List.mem_append_left _ hx) | exact List.mem_cons_of_mem _ (List.mem_cons_of_mem _ (List.mem_append_left _ hx)) | exact List.mem_append_left _ hx) (by intro p hp; obtain ⟨x, _, rfl⟩ := List.mem_map.1 hp; rfl) (by simp; omega)) rfl) | apply DpL.cons (Dp.agg (n := 96000) ?_ rfl)) rfl) ((by first | exact calCheck_ok st en sp hsp (by omega) hsw hew | exact calCheck_ok _ _ _ (slP_is 1 _) (by simp; omega) (fun x hx => hssw x (List.mem_of_mem_take hx)) he)) (by first | (intro p hp; rw [hp]; rfl) | (rintro p ⟨r, rfl, _⟩; rfl)) (fun p84 hp => ?_)
                        obtain rfl := hp
                        refine Rs.assign rfl rfl ?_
                        refine Rs.nil ?_
                        refine Ps.thn ?_
                        refine Ps.seq ?_
                        refine Ps.region rfl ?_
                        first | refine Rs.loadR (p := .agg [_, _, _, _]) rfl rfl rfl rfl ?_ | refine Rs.loadP (p := .agg [_, _, _, _]) 0 rfl rfl rfl rfl rfl ?_ | refine Rs.loadP (p := .agg [_, _, _, _]) 1 rfl rfl rfl rfl rfl ?_ | refine Rs.loadP (p := .agg [_, _, _, _]) 2 rfl rfl rfl rfl rfl ?_ | refine Rs.loadP (p := .agg [_, _, _, _]) 3 rfl rfl rfl rfl rfl ?_
                        refine Rs.call1 rfl rfl rfl (fun H hH => DpL.top (n := 98000) (by repeat' first | exact DpL.nil | apply DpL.cons (Dp.plain _ rfl rfl) | apply DpL.cons (Dp.sl _ (by assumption)) | apply DpL.cons (Dp.up (Dp.g (by assumption) hH (fun x hx => by first | (simp [hx]; done) | exact List.mem_cons_of_mem _ (List.mem_append_left _ hx) | exact List.mem_cons_of_mem _ (List.mem_cons_of_mem _ (List.mem_append_left _ hx)) | exact List.mem_append_left _ hx) (by intro p hp; obtain ⟨x, _, rfl⟩ := List.mem_map.1 hp; rfl) (by simp; omega)) rfl) | apply DpL.cons (Dp.agg (n := 96000) ?_ rfl)) rfl) ((by first | exact frameCheck_ok ch' un' st en cp' up' sp kcp kup hsp kcw kcl kul (by omega) hsw hew | exact frameCheck_ok _ _ _ _ _ _ _ kcp kup (slP_is 1 _) kcw kcl kul (by simp; omega) (fun x hx => hssw x (List.mem_of_mem_take hx)) he)) (by first | (intro p hp; rw [hp]; rfl) | (rintro p ⟨r, rfl, _⟩; rfl)) (fun p86 hp => ?_)
                        obtain rfl := hp
                        refine Rs.move rfl rfl ?_
                        refine Rs.binB rfl rfl rfl rfl rfl rfl ?_
                        refine Rs.assign rfl rfl ?_
                        refine Rs.nil ?_
                        refine Ps.thn ?_
                        refine Ps.ret ?_
                        -- leaf 10 (ret)
                        first
                          | (cases hc; done)
                          | (refine Ps.finP (l := [_]) rfl (by refine ResR.tmp rfl ?_; exact ResR.nil) (by first | rfl | simp [plainP, plainC, cp_lit, cp_dsl, *]) rfl ?_
                             first
                               | rfl
                               | (simp only [one, chkFrame]; simp [*]; done)
                               | (simp only [one, chkFrame]; simp_all; done))
                      · try replace hc := dc hc
                        refine Ps.skip ?_
                        refine Ps.thn ?_
                        refine Ps.seq ?_
                        refine Ps.region rfl ?_
                        first | refine Rs.loadR (p := .agg [_, _, _, _]) rfl rfl rfl rfl ?_ | refine Rs.loadP (p := .agg [_, _, _, _]) 0 rfl rfl rfl rfl rfl ?_ | refine Rs.loadP (p := .agg [_, _, _, _]) 1 rfl rfl rfl rfl rfl ?_ | refine Rs.loadP (p := .agg [_, _, _, _]) 2 rfl rfl rfl rfl rfl ?_ | refine Rs.loadP (p := .agg [_, _, _, _]) 3 rfl rfl rfl rfl rfl ?_
                        refine Rs.call1 rfl rfl rfl (fun H hH => DpL.top (n := 98000) (by repeat' first | exact DpL.nil | apply DpL.cons (Dp.plain _ rfl rfl) | apply DpL.cons (Dp.sl _ (by assumption)) | apply DpL.cons (Dp.up (Dp.g (by assumption) hH (fun x hx => by first | (simp [hx]; done) | exact List.mem_cons_of_mem _ (List.mem_append_left _ hx) | exact List.mem_cons_of_mem _ (List.mem_cons_of_mem _ (List.mem_append_left _ hx)) | exact List.mem_append_left _ hx) (by intro p hp; obtain ⟨x, _, rfl⟩ := List.mem_map.1 hp; rfl) (by simp; omega)) rfl) | apply DpL.cons (Dp.agg (n := 96000) ?_ rfl)) rfl) ((by first | exact frameCheck_ok ch' un' st en cp' up' sp kcp kup hsp kcw kcl kul (by omega) hsw hew | exact frameCheck_ok _ _ _ _ _ _ _ kcp kup (slP_is 1 _) kcw kcl kul (by simp; omega) (fun x hx => hssw x (List.mem_of_mem_take hx)) he)) (by first | (intro p hp; rw [hp]; rfl) | (rintro p ⟨r, rfl, _⟩; rfl)) (fun p86 hp => ?_)
                        obtain rfl := hp
                        refine Rs.move rfl rfl ?_
                        refine Rs.binB rfl rfl rfl rfl rfl rfl ?_
                        refine Rs.assign rfl rfl ?_
                        refine Rs.nil ?_
                        refine Ps.thn ?_
                        refine Ps.ret ?_
                        -- leaf 11 (ret)
                        first
                          | (cases hc; done)
                          | (refine Ps.finP (l := [_]) rfl (by refine ResR.tmp rfl ?_; exact ResR.nil) (by first | rfl | simp [plainP, plainC, cp_lit, cp_dsl, *]) rfl ?_
                             first
                               | rfl
                               | (simp only [one, chkFrame]; simp [*]; done)
                               | (simp only [one, chkFrame]; simp_all; done))
                · try replace hc := dc hc
                  refine Ps.skip ?_
                  refine Ps.thn ?_
                  refine Ps.seq ?_
                  refine Ps.region rfl ?_
                  first | refine Rs.fieldAddrD (off' := 0) rfl rfl rfl rfl ?_ | refine Rs.fieldAddrP (off' := 0) rfl rfl rfl rfl ?_
                  first | refine Rs.loadR rfl rfl rfl rfl ?_ | refine Rs.loadP 0 rfl rfl rfl rfl rfl ?_ | refine Rs.loadP 1 rfl rfl rfl rfl rfl ?_ | refine Rs.loadP 2 rfl rfl rfl rfl rfl ?_ | refine Rs.loadP 3 rfl rfl rfl rfl rfl ?_
                  refine Rs.call0 rfl rfl rfl (check6_ok _ _ kcw kcp kcl) (fun p74 hp => ?_)
                  obtain rfl := hp
                  refine Rs.assign rfl rfl ?_
                  refine Rs.nil ?_
                  refine Ps.thn ?_
                  refine Ps.seq ?_
                  refine Ps.seq ?_
                  refine Ps.region rfl ?_
                  refine Rs.move rfl rfl ?_
                  refine Rs.binB rfl rfl rfl rfl rfl rfl ?_
                  refine Rs.nil ?_
                  refine Ps.thn ?_
                  refine Ps.if rfl (fun hc => ?_) (fun hc => ?_)
                  · try replace hc := dc hc
                    refine Ps.region rfl ?_
                    first | refine Rs.fieldAddrD (off' := 1) rfl rfl rfl rfl ?_ | refine Rs.fieldAddrP (off' := 1) rfl rfl rfl rfl ?_
                    first | refine Rs.loadR rfl rfl rfl rfl ?_ | refine Rs.loadP 0 rfl rfl rfl rfl rfl ?_ | refine Rs.loadP 1 rfl rfl rfl rfl rfl ?_ | refine Rs.loadP 2 rfl rfl rfl rfl rfl ?_ | refine Rs.loadP 3 rfl rfl rfl rfl rfl ?_
                    refine Rs.call0 rfl rfl rfl (unitsCheck_ok _ _ kup kul) (fun p79 hp => ?_)
                    obtain rfl := hp
                    refine Rs.assign rfl rfl ?_
                    refine Rs.nil ?_
                    refine Ps.thn ?_
                    refine Ps.seq ?_
                    refine Ps.seq ?_
                    refine Ps.region rfl ?_
                    refine Rs.move rfl rfl ?_
                    refine Rs.binB rfl rfl rfl rfl rfl rfl ?_
                    refine Rs.nil ?_
                    refine Ps.thn ?_
                    refine Ps.if rfl (fun hc => ?_) (fun hc => ?_)
                    · try replace hc := dc hc
                      refine Ps.region rfl ?_
                      first | refine Rs.fieldAddrD (off' := 2) rfl rfl rfl rfl ?_ | refine Rs.fieldAddrP (off' := 2) rfl rfl rfl rfl ?_
                      first | refine Rs.loadR (p := .agg [_, _]) rfl rfl rfl rfl ?_ | refine Rs.loadP (p := .agg [_, _]) 0 rfl rfl rfl rfl rfl ?_ | refine Rs.loadP (p := .agg [_, _]) 1 rfl rfl rfl rfl rfl ?_ | refine Rs.loadP (p := .agg [_, _]) 2 rfl rfl rfl rfl rfl ?_ | refine Rs.loadP (p := .agg [_, _]) 3 rfl rfl rfl rfl rfl ?_
                      refine Rs.call1 rfl rfl rfl (fun H hH => DpL.top (n := 98000) (by repeat' first | exact DpL.nil | apply DpL.cons (Dp.plain _ rfl rfl) | apply DpL.cons (Dp.sl _ (by assumption)) | apply DpL.cons (Dp.up (Dp.g (by assumption) hH (fun x hx => by first | (simp [hx]; done) | exact List.mem_cons_of_mem _ (List.mem_append_left _ hx) | exact List.mem_cons_of_mem _ (List.mem_cons_of_mem _ (List.mem_append_left _ hx)) | exact List.mem_append_left _ hx) (by intro p hp; obtain ⟨x, _, rfl⟩ := List.mem_map.1 hp; rfl) (by simp; omega)) rfl) | apply DpL.cons (Dp.agg (n := 96000) ?_ rfl)) rfl) ((by first | exact calCheck_ok st en sp hsp (by omega) hsw hew | exact calCheck_ok _ _ _ (slP_is 1 _) (by simp; omega) (fun x hx => hssw x (List.mem_of_mem_take hx)) he)) (by first | (intro p hp; rw [hp]; rfl) | (rintro p ⟨r, rfl, _⟩; rfl)) (fun p84 hp => ?_)
                      obtain rfl := hp
                      refine Rs.assign rfl rfl ?_
                      refine Rs.nil ?_
                      refine Ps.thn ?_
                      refine Ps.seq ?_
                      refine Ps.region rfl ?_
                      first | refine Rs.loadR (p := .agg [_, _, _, _]) rfl rfl rfl rfl ?_ | refine Rs.loadP (p := .agg [_, _, _, _]) 0 rfl rfl rfl rfl rfl ?_ | refine Rs.loadP (p := .agg [_, _, _, _]) 1 rfl rfl rfl rfl rfl ?_ | refine Rs.loadP (p := .agg [_, _, _, _]) 2 rfl rfl rfl rfl rfl ?_ | refine Rs.loadP (p := .agg [_, _, _, _]) 3 rfl rfl rfl rfl rfl ?_
                      refine Rs.call1 rfl rfl rfl (fun H hH => DpL.top (n := 98000) (by repeat' first | exact DpL.nil | apply DpL.cons (Dp.plain _ rfl rfl) | apply DpL.cons (Dp.sl _ (by assumption)) | apply DpL.cons (Dp.up (Dp.g (by assumption) hH (fun x hx => by first | (simp [hx]; done) | exact List.mem_cons_of_mem _ (List.mem_append_left _ hx) | exact List.mem_cons_of_mem _ (List.mem_cons_of_mem _ (List.mem_append_left _ hx)) | exact List.mem_append_left _ hx) (by intro p hp; obtain ⟨x, _, rfl⟩ := List.mem_map.1 hp; rfl) (by simp; omega)) rfl) | apply DpL.cons (Dp.agg (n := 96000) ?_ rfl)) rfl) ((by first | exact frameCheck_ok ch' un' st en cp' up' sp kcp kup hsp kcw kcl kul (by omega) hsw hew | exact frameCheck_ok _ _ _ _ _ _ _ kcp kup (slP_is 1 _) kcw kcl kul (by simp; omega) (fun x hx => hssw x (List.mem_of_mem_take hx)) he)) (by first | (intro p hp; rw [hp]; rfl) | (rintro p ⟨r, rfl, _⟩; rfl)) (fun p86 hp => ?_)
                      obtain rfl := hp
                      refine Rs.move rfl rfl ?_
                      refine Rs.binB rfl rfl rfl rfl rfl rfl ?_
                      refine Rs.assign rfl rfl ?_
                      refine Rs.nil ?_
                      refine Ps.thn ?_
                      refine Ps.ret ?_
                      -- leaf 12 (ret)
                      first
                        | (cases hc; done)
                        | (refine Ps.finP (l := [_]) rfl (by refine ResR.tmp rfl ?_; exact ResR.nil) (by first | rfl | simp [plainP, plainC, cp_lit, cp_dsl, *]) rfl ?_
                           first
                             | rfl
                             | (simp only [one, chkFrame]; simp [*]; done)
                             | (simp only [one, chkFrame]; simp_all; done))
                    · try replace hc := dc hc
                      refine Ps.skip ?_
                      refine Ps.thn ?_
                      refine Ps.seq ?_
                      refine Ps.region rfl ?_
                      first | refine Rs.loadR (p := .agg [_, _, _, _]) rfl rfl rfl rfl ?_ | refine Rs.loadP (p := .agg [_, _, _, _]) 0 rfl rfl rfl rfl rfl ?_ | refine Rs.loadP (p := .agg [_, _, _, _]) 1 rfl rfl rfl rfl rfl ?_ | refine Rs.loadP (p := .agg [_, _, _, _]) 2 rfl rfl rfl rfl rfl ?_ | refine Rs.loadP (p := .agg [_, _, _, _]) 3 rfl rfl rfl rfl rfl ?_
                      refine Rs.call1 rfl rfl rfl (fun H hH => DpL.top (n := 98000) (by repeat' first | exact DpL.nil | apply DpL.cons (Dp.plain _ rfl rfl) | apply DpL.cons (Dp.sl _ (by assumption)) | apply DpL.cons (Dp.up (Dp.g (by assumption) hH (fun x hx => by first | (simp [hx]; done) | exact List.mem_cons_of_mem _ (List.mem_append_left _ hx) | exact List.mem_cons_of_mem _ (List.mem_cons_of_mem _ (List.mem_append_left _ hx)) | exact List.mem_append_left _ hx) (by intro p hp; obtain ⟨x, _, rfl⟩ := List.mem_map.1 hp; rfl) (by simp; omega)) rfl) | apply DpL.cons (Dp.agg (n := 96000) ?_ rfl)) rfl) ((by first | exact frameCheck_ok ch' un' st en cp' up' sp kcp kup hsp kcw kcl kul (by omega) hsw hew | exact frameCheck_ok _ _ _ _ _ _ _ kcp kup (slP_is 1 _) kcw kcl kul (by simp; omega) (fun x hx => hssw x (List.mem_of_mem_take hx)) he)) (by first | (intro p hp; rw [hp]; rfl) | (rintro p ⟨r, rfl, _⟩; rfl)) (fun p86 hp => ?_)
                      obtain rfl := hp
                      refine Rs.move rfl rfl ?_
                      refine Rs.binB rfl rfl rfl rfl rfl rfl ?_
                      refine Rs.assign rfl rfl ?_
                      refine Rs.nil ?_
                      refine Ps.thn ?_
                      refine Ps.ret ?_
                      -- leaf 13 (ret)
                      first
                        | (cases hc; done)
                        | (refine Ps.finP (l := [_]) rfl (by refine ResR.tmp rfl ?_; exact ResR.nil) (by first | rfl | simp [plainP, plainC, cp_lit, cp_dsl, *]) rfl ?_
                           first
                             | rfl
                             | (simp only [one, chkFrame]; simp [*]; done)
                             | (simp only [one, chkFrame]; simp_all; done))
                  · try replace hc := dc hc
                    refine Ps.skip ?_
                    refine Ps.thn ?_
                    refine Ps.seq ?_
                    refine Ps.seq ?_
                    refine Ps.region rfl ?_
                    refine Rs.move rfl rfl ?_
                    refine Rs.binB rfl rfl rfl rfl rfl rfl ?_
                    refine Rs.nil ?_
                    refine Ps.thn ?_
                    refine Ps.if rfl (fun hc => ?_) (fun hc => ?_)
                    · try replace hc := dc hc
                      refine Ps.region rfl ?_
                      first | refine Rs.fieldAddrD (off' := 2) rfl rfl rfl rfl ?_ | refine Rs.fieldAddrP (off' := 2) rfl rfl rfl rfl ?_
                      first | refine Rs.loadR (p := .agg [_, _]) rfl rfl rfl rfl ?_ | refine Rs.loadP (p := .agg [_, _]) 0 rfl rfl rfl rfl rfl ?_ | refine Rs.loadP (p := .agg [_, _]) 1 rfl rfl rfl rfl rfl ?_ | refine Rs.loadP (p := .agg [_, _]) 2 rfl rfl rfl rfl rfl ?_ | refine Rs.loadP (p := .agg [_, _]) 3 rfl rfl rfl rfl rfl ?_
                      refine Rs.call1 rfl rfl rfl (fun H hH => DpL.top (n := 98000) (by repeat' first | exact DpL.nil | apply DpL.cons (Dp.plain _ rfl rfl) | apply DpL.cons (Dp.sl _ (by assumption)) | apply DpL.cons (Dp.up (Dp.g (by assumption) hH (fun x hx => by first | (simp [hx]; done) | exact List.mem_cons_of_mem _ (List.mem_append_left _ hx) | exact List.mem_cons_of_mem _ (List.mem_cons_of_mem _ (List.mem_append_left _ hx)) | exact List.mem_append_left _ hx) (by intro p hp; obtain ⟨x, _, rfl⟩ := List.mem_map.1 hp; rfl) (by simp; omega)) rfl) | apply DpL.cons (Dp.agg (n := 96000) ?_ rfl)) rfl) ((by first | exact calCheck_ok st en sp hsp (by omega) hsw hew | exact calCheck_ok _ _ _ (slP_is 1 _) (by simp; omega) (fun x hx => hssw x (List.mem_of_mem_take hx)) he)) (by first | (intro p hp; rw [hp]; rfl) | (rintro p ⟨r, rfl, _⟩; rfl)) (fun p84 hp => ?_)
                      obtain rfl := hp
                      refine Rs.assign rfl rfl ?_
                      refine Rs.nil ?_
                      refine Ps.thn ?_
                      refine Ps.seq ?_
                      refine Ps.region rfl ?_
                      first | refine Rs.loadR (p := .agg [_, _, _, _]) rfl rfl rfl rfl ?_ | refine Rs.loadP (p := .agg [_, _, _, _]) 0 rfl rfl rfl rfl rfl ?_ | refine Rs.loadP (p := .agg [_, _, _, _]) 1 rfl rfl rfl rfl rfl ?_ | refine Rs.loadP (p := .agg [_, _, _, _]) 2 rfl rfl rfl rfl rfl ?_ | refine Rs.loadP (p := .agg [_, _, _, _]) 3 rfl rfl rfl rfl rfl ?_
                      refine Rs.call1 rfl rfl rfl (fun H hH => DpL.top (n := 98000) (by repeat' first | exact DpL.nil | apply DpL.cons (Dp.plain _ rfl rfl) | apply DpL.cons (Dp.sl _ (by assumption)) | apply DpL.cons (Dp.up (Dp.g (by assumption) hH (fun x hx => by first | (simp [hx]; done) | exact List.mem_cons_of_mem _ (List.mem_append_left _ hx) | exact List.mem_cons_of_mem _ (List.mem_cons_of_mem _ (List.mem_append_left _ hx)) | exact List.mem_append_left _ hx) (by intro p hp; obtain ⟨x, _, rfl⟩ := List.mem_map.1 hp; rfl) (by simp; omega)) rfl) | apply DpL.cons (Dp.agg (n := 96000) ?_ rfl)) rfl) ((by first | exact frameCheck_ok ch' un' st en cp' up' sp kcp kup hsp kcw kcl kul (by omega) hsw hew | exact frameCheck_ok _ _ _ _ _ _ _ kcp kup (slP_is 1 _) kcw kcl kul (by simp; omega) (fun x hx => hssw x (List.mem_of_mem_take hx)) he)) (by first | (intro p hp; rw [hp]; rfl) | (rintro p ⟨r, rfl, _⟩; rfl)) (fun p86 hp => ?_)
                      obtain rfl := hp
                      refine Rs.move rfl rfl ?_
                      refine Rs.binB rfl rfl rfl rfl rfl rfl ?_
                      refine Rs.assign rfl rfl ?_
                      refine Rs.nil ?_
                      refine Ps.thn ?_
                      refine Ps.ret ?_
                      -- leaf 14 (ret)
                      first
                        | (cases hc; done)
                        | (refine Ps.finP (l := [_]) rfl (by refine ResR.tmp rfl ?_; exact ResR.nil) (by first | rfl | simp [plainP, plainC, cp_lit, cp_dsl, *]) rfl ?_
                           first
                             | rfl
                             | (simp only [one, chkFrame]; simp [*]; done)
                             | (simp only [one, chkFrame]; simp_all; done))
                    · try replace hc := dc hc
                      refine Ps.skip ?_
                      refine Ps.thn ?_
                      refine Ps.seq ?_
                      refine Ps.region rfl ?_
                      first | refine Rs.loadR (p := .agg [_, _, _, _]) rfl rfl rfl rfl ?_ | refine Rs.loadP (p := .agg [_, _, _, _]) 0 rfl rfl rfl rfl rfl ?_ | refine Rs.loadP (p := .agg [_, _, _, _]) 1 rfl rfl rfl rfl rfl ?_ | refine Rs.loadP (p := .agg [_, _, _, _]) 2 rfl rfl rfl rfl rfl ?_ | refine Rs.loadP (p := .agg [_, _, _, _]) 3 rfl rfl rfl rfl rfl ?_
                      refine Rs.call1 rfl rfl rfl (fun H hH => DpL.top (n := 98000) (by repeat' first | exact DpL.nil | apply DpL.cons (Dp.plain _ rfl rfl) | apply DpL.cons (Dp.sl _ (by assumption)) | apply DpL.cons (Dp.up (Dp.g (by assumption) hH (fun x hx => by first | (simp [hx]; done) | exact List.mem_cons_of_mem _ (List.mem_append_left _ hx) | exact List.mem_cons_of_mem _ (List.mem_cons_of_mem _ (List.mem_append_left _ hx)) | exact List.mem_append_left _ hx) (by intro p hp; obtain ⟨x, _, rfl⟩ := List.mem_map.1 hp; rfl) (by simp; omega)) rfl) | apply DpL.cons (Dp.agg (n := 96000) ?_ rfl)) rfl) ((by first | exact frameCheck_ok ch' un' st en cp' up' sp kcp kup hsp kcw kcl kul (by omega) hsw hew | exact frameCheck_ok _ _ _ _ _ _ _ kcp kup (slP_is 1 _) kcw kcl kul (by simp; omega) (fun x hx => hssw x (List.mem_of_mem_take hx)) he)) (by first | (intro p hp; rw [hp]; rfl) | (rintro p ⟨r, rfl, _⟩; rfl)) (fun p86 hp => ?_)
                      obtain rfl := hp
                      refine Rs.move rfl rfl ?_
                      refine Rs.binB rfl rfl rfl rfl rfl rfl ?_
                      refine Rs.assign rfl rfl ?_
                      refine Rs.nil ?_
                      refine Ps.thn ?_
                      refine Ps.ret ?_
                      -- leaf 15 (ret)
                      first
                        | (cases hc; done)
                        | (refine Ps.finP (l := [_]) rfl (by refine ResR.tmp rfl ?_; exact ResR.nil) (by first | rfl | simp [plainP, plainC, cp_lit, cp_dsl, *]) rfl ?_
                           first
                             | rfl
                             | (simp only [one, chkFrame]; simp [*]; done)
                             | (simp only [one, chkFrame]; simp_all; done))
        · try replace hg := dc hg
          refine Rs.guardF1 rfl rfl rfl ?_
          refine Rs.guardF1 rfl rfl rfl ?_
          refine Rs.pickT (p := .lit _) rfl rfl rfl rfl ?_
          refine Rs.nil ?_
          refine Ps.thn ?_
          refine Ps.ifT rfl ?_
          refine Ps.seq ?_
          refine Ps.region rfl ?_
          refine Rs.assign (p := .lit _) rfl rfl ?_
          refine Rs.nil ?_
          refine Ps.thn ?_
          refine Ps.ret ?_
          refine Ps.thn_ret ?_
          -- leaf 16 (ret)
          first
            | (cases hc; done)
            | (refine Ps.finP (l := [_]) rfl (by refine ResR.tmp rfl ?_; exact ResR.nil) (by first | rfl | simp [plainP, plainC, cp_lit, cp_dsl, *]) rfl ?_
               first
                 | rfl
                 | (simp only [one, chkFrame]; simp [*]; done)
                 | (simp only [one, chkFrame]; simp_all; done))
      · try replace hg := dc hg
        refine Rs.guardF1 rfl rfl rfl ?_
        refine Rs.guardF1 rfl rfl rfl ?_
        refine Rs.pickT (p := .lit _) rfl rfl rfl rfl ?_
        refine Rs.move rfl rfl ?_
        refine Rs.guardF1 rfl rfl rfl ?_
        refine Rs.guardF1 rfl rfl rfl ?_
        refine Rs.guardF1 rfl rfl rfl ?_
        refine Rs.pickT (p := .lit _) rfl rfl rfl rfl ?_
        refine Rs.nil ?_
        refine Ps.thn ?_
        refine Ps.ifT rfl ?_
        refine Ps.seq ?_
        refine Ps.region rfl ?_
        refine Rs.assign (p := .lit _) rfl rfl ?_
        refine Rs.nil ?_
        refine Ps.thn ?_
        refine Ps.ret ?_
        refine Ps.thn_ret ?_
        -- leaf 17 (ret)
        first
          | (cases hc; done)
          | (refine Ps.finP (l := [_]) rfl (by refine ResR.tmp rfl ?_; exact ResR.nil) (by first | rfl | simp [plainP, plainC, cp_lit, cp_dsl, *]) rfl ?_
             first
               | rfl
               | (simp only [one, chkFrame]; simp [*]; done)
               | (simp only [one, chkFrame]; simp_all; done))
    · try replace hg := dc hg
      refine Rs.guardF1 rfl rfl rfl ?_
      refine Rs.guardF1 rfl rfl rfl ?_
      refine Rs.pickT (p := .lit _) rfl rfl rfl rfl ?_
      refine Rs.move rfl rfl ?_
      refine Rs.guardF1 rfl rfl rfl ?_
      refine Rs.guardF1 rfl rfl rfl ?_
      refine Rs.guardF1 rfl rfl rfl ?_
      refine Rs.pickT (p := .lit _) rfl rfl rfl rfl ?_
      refine Rs.move rfl rfl ?_
      refine Rs.guardF1 rfl rfl rfl ?_
      refine Rs.guardF1 rfl rfl rfl ?_
      refine Rs.guardF1 rfl rfl rfl ?_
      refine Rs.pickT (p := .lit _) rfl rfl rfl rfl ?_
      refine Rs.nil ?_
      refine Ps.thn ?_
      refine Ps.ifT rfl ?_
      refine Ps.seq ?_
      refine Ps.region rfl ?_
      refine Rs.assign (p := .lit _) rfl rfl ?_
      refine Rs.nil ?_
      refine Ps.thn ?_
      refine Ps.ret ?_
      refine Ps.thn_ret ?_
      -- leaf 18 (ret)
      first
        | (cases hc; done)
        | (refine Ps.finP (l := [_]) rfl (by refine ResR.tmp rfl ?_; exact ResR.nil) (by first | rfl | simp [plainP, plainC, cp_lit, cp_dsl, *]) rfl ?_
           first
             | rfl
             | (simp only [one, chkFrame]; simp [*]; done)
             | (simp only [one, chkFrame]; simp_all; done))
end Go.Proofs.YtddaogebacigbaaGreatDoor.RV.T
end
section
namespace Go.Proofs.YtddaogebacigbaaGreatDoor
open Go Go.ChangeShapes Go.WideShapes Go.ChangeAt Go.RowKit Go.Proofs.YtddaogebacigbaaGreatDoor.RV Go.Proofs.YtddaogebacigbaaGreatDoor.RV.T Go.Proofs.YtddaogebacigbaaGreatDoor.XA.Awk
set_option linter.unusedVariables false
theorem laidOut : laidOutB Tryz.prog = true := by kernel_rfl
abbrev is139 : PV → Prop := fun p => ∃ x, p = srcP x ∧ SrcOk x
theorem o139 : Opns Tryz.prog 139 is139 := by
  refine Opns.mono (op_struct (Ds := [IsI .u8, IsI .u8, IsI .u8, IsI .u8]) Tryz.underlying139 ⟨by kernel_rfl, op_int Tryz.underlying5, by kernel_rfl, op_int Tryz.underlying5, by kernel_rfl, op_int Tryz.underlying5, by kernel_rfl, op_int Tryz.underlying5, trivial⟩ (by kernel_rfl)) ?_
  rintro p ⟨ps, h, rfl⟩
  obtain ⟨_, ps1, rfl, h1, h⟩ := allD_cons h
  obtain ⟨_, ps2, rfl, h2, h⟩ := allD_cons h
  obtain ⟨_, ps3, rfl, h3, h⟩ := allD_cons h
  obtain ⟨_, ps4, rfl, h4, h⟩ := allD_cons h
  obtain rfl := allD_nil h
  clear h
  obtain ⟨n1, rfl, w1⟩ := h1
  obtain ⟨n2, rfl, w2⟩ := h2
  obtain ⟨n3, rfl, w3⟩ := h3
  obtain ⟨n4, rfl, w4⟩ := h4
  exact ⟨⟨n1, n2, n3, n4⟩, rfl, wf_rng w1 rfl rfl, wf_rng w2 rfl rfl, wf_rng w3 rfl rfl, wf_rng w4 rfl rfl⟩
abbrev is59 : PV → Prop := fun p => ∃ x, p = lvP x ∧ LvOk x
theorem o59 : Opns Tryz.prog 59 is59 := by
  refine Opns.mono (op_struct (Ds := [IsI .u8, IsI .u8, IsI .u8, IsI .i64]) Tryz.underlying59 ⟨by kernel_rfl, op_int Tryz.underlying5, by kernel_rfl, op_int Tryz.underlying5, by kernel_rfl, op_int Tryz.underlying5, by kernel_rfl, op_int Tryz.underlying2, trivial⟩ (by kernel_rfl)) ?_
  rintro p ⟨ps, h, rfl⟩
  obtain ⟨_, ps1, rfl, h1, h⟩ := allD_cons h
  obtain ⟨_, ps2, rfl, h2, h⟩ := allD_cons h
  obtain ⟨_, ps3, rfl, h3, h⟩ := allD_cons h
  obtain ⟨_, ps4, rfl, h4, h⟩ := allD_cons h
  obtain rfl := allD_nil h
  clear h
  obtain ⟨n1, rfl, w1⟩ := h1
  obtain ⟨n2, rfl, w2⟩ := h2
  obtain ⟨n3, rfl, w3⟩ := h3
  obtain ⟨n4, rfl, w4⟩ := h4
  exact ⟨⟨n1, n2, n3, n4⟩, rfl, wf_rng w1 rfl rfl, wf_rng w2 rfl rfl, wf_rng w3 rfl rfl, wf_rng w4 rfl rfl⟩
abbrev is103 : PV → Prop := fun p => ∃ x, p = jvP x ∧ (fun j => ((0 ≤ j.later ∧ j.later ≤ 255) ∧ ∀ y ∈ j.lines, LvOk y)) x
theorem o103 : Opns Tryz.prog 103 is103 := by
  refine Opns.mono (op_struct (Ds := [IsI .u8, IsL 4 (is59)]) Tryz.underlying103 ⟨by kernel_rfl, op_int Tryz.underlying5, by kernel_rfl, op_slice Tryz.underlying101 (o59) (by kernel_rfl) (by decide) (of_decide_eq_true (by kernel_rfl)), trivial⟩ (by kernel_rfl)) ?_
  rintro p ⟨ps, h, rfl⟩
  obtain ⟨_, ps1, rfl, h1, h⟩ := allD_cons h
  obtain ⟨_, ps2, rfl, h2, h⟩ := allD_cons h
  obtain rfl := allD_nil h
  clear h
  obtain ⟨n1, rfl, w1⟩ := h1
  obtain ⟨l2, rfl, b2, w2⟩ := IsL.enc h2
  exact ⟨⟨n1, l2⟩, rfl, wf_rng w1 rfl rfl, w2⟩
abbrev is57 : PV → Prop := fun p => ∃ x, p = bvP x ∧ (fun x => BvOk x ∧ x.js.length ≤ 140737488351232) x
theorem o57 : Opns Tryz.prog 57 is57 := by
  refine Opns.mono (op_struct (Ds := [IsL 4 (is139), IsL 1 (IsI .u16), IsI .i16, IsL 1 (IsI .u8), IsL 2 (is103)]) Tryz.underlying57 ⟨by kernel_rfl, op_slice Tryz.underlying52 (o139) (by kernel_rfl) (by decide) (of_decide_eq_true (by kernel_rfl)), by kernel_rfl, op_slice Tryz.underlying53 (op_int Tryz.underlying26) (by kernel_rfl) (by decide) (of_decide_eq_true (by kernel_rfl)), by kernel_rfl, op_int Tryz.underlying49, by kernel_rfl, op_slice Tryz.underlying54 (op_int Tryz.underlying5) (by kernel_rfl) (by decide) (of_decide_eq_true (by kernel_rfl)), by kernel_rfl, op_slice Tryz.underlying55 (o103) (by kernel_rfl) (by decide) (of_decide_eq_true (by kernel_rfl)), trivial⟩ (by kernel_rfl)) ?_
  rintro p ⟨ps, h, rfl⟩
  obtain ⟨_, ps1, rfl, h1, h⟩ := allD_cons h
  obtain ⟨_, ps2, rfl, h2, h⟩ := allD_cons h
  obtain ⟨_, ps3, rfl, h3, h⟩ := allD_cons h
  obtain ⟨_, ps4, rfl, h4, h⟩ := allD_cons h
  obtain ⟨_, ps5, rfl, h5, h⟩ := allD_cons h
  obtain rfl := allD_nil h
  clear h
  obtain ⟨l1, rfl, b1, w1⟩ := IsL.enc h1
  obtain ⟨l2, rfl, b2, w2⟩ := IsL.ints h2
  obtain ⟨n3, rfl, w3⟩ := h3
  obtain ⟨l4, rfl, b4, w4⟩ := IsL.ints h4
  obtain ⟨l5, rfl, b5, w5⟩ := IsL.enc h5
  exact ⟨⟨l1, l2, n3, l4, l5⟩, rfl, ⟨w1, fun y hy => wf_rng (w2 y hy) rfl rfl, wf_rng w3 rfl rfl, fun y hy => wf_rng (w4 y hy) rfl rfl, w5⟩, b5⟩
abbrev is109 : PV → Prop := fun p => ∃ x, p = accP x ∧ AccOk x
theorem o109 : Opns Tryz.prog 109 is109 := by
  refine Opns.mono (op_struct (Ds := [IsI .u32, (fun p => ∃ s : ByteArray, p = .lit (.string s) ∧ s.size ≤ 140737488351232), IsI .u8, IsI .u32]) Tryz.underlying109 ⟨by kernel_rfl, op_int Tryz.underlying25, by kernel_rfl, op_string Tryz.underlying9, by kernel_rfl, op_int Tryz.underlying107, by kernel_rfl, op_int Tryz.underlying25, trivial⟩ (by kernel_rfl)) ?_
  rintro p ⟨ps, h, rfl⟩
  obtain ⟨_, ps1, rfl, h1, h⟩ := allD_cons h
  obtain ⟨_, ps2, rfl, h2, h⟩ := allD_cons h
  obtain ⟨_, ps3, rfl, h3, h⟩ := allD_cons h
  obtain ⟨_, ps4, rfl, h4, h⟩ := allD_cons h
  obtain rfl := allD_nil h
  clear h
  obtain ⟨n1, rfl, w1⟩ := h1
  obtain ⟨n2, rfl, w2⟩ := h2
  obtain ⟨n3, rfl, w3⟩ := h3
  obtain ⟨n4, rfl, w4⟩ := h4
  exact ⟨⟨n1, n2, n3, n4⟩, rfl, wf_rng w1 rfl rfl, wf_rng w3 rfl rfl, wf_rng w4 rfl rfl, w2⟩
theorem o60 : Opns Tryz.prog 60 (IsL 4 (is109)) := op_slice Tryz.underlying60 (o109) (by kernel_rfl) (by decide) (of_decide_eq_true (by kernel_rfl))
theorem o53 : Opns Tryz.prog 53 (IsL 1 (IsI .u16)) := op_slice Tryz.underlying53 (op_int Tryz.underlying26) (by kernel_rfl) (by decide) (of_decide_eq_true (by kernel_rfl))
theorem o90 : Opns Tryz.prog 90 (IsL 1 (IsI .i32)) := op_slice Tryz.underlying90 (op_int Tryz.underlying21) (by kernel_rfl) (by decide) (of_decide_eq_true (by kernel_rfl))
end Go.Proofs.YtddaogebacigbaaGreatDoor
end
