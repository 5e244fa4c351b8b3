/- A part of the symbolic runs of functions by the evaluator (TB1). Conditions: none. -/
import Derived.Test.YtddaogebacigbaaGreatDoorSvK
import Derived.Test.YtddaogebacigbaaGreatDoorSvS
open Go Go.Proofs.YtddaogebacigbaaGreatDoor.RV Go.Proofs.YtddaogebacigbaaGreatDoor.XA.Awk Go.Proofs.YtddaogebacigbaaGreatDoor.RV.ChartMath Go.Proofs
namespace Go.Proofs.YtddaogebacigbaaGreatDoor.RV.T
set_option maxRecDepth 100000
set_option linter.unusedVariables false
set_option linter.unusedSimpArgs false
def noAcc : Acc := ⟨0, .empty, 0, 0⟩
def getP (l : List Acc) (n : Int) : PV := .tup [accP ((find l n).getD noAcc), boolP (find l n).isSome]
theorem find_drop {l : List Acc} {n : Int} {j : Nat} {x : Acc} (hx : l[j]? = some x) : find (l.drop j) n = if x.code == n then some x else find (l.drop (j + 1)) n := by
  unfold find
  rw [drop_at hx, List.find?_cons]
  split <;> simp_all
theorem get_ok (l : List Acc) (p : PV) (n : Int) (hp : IsSl 4 (l.map accP) p) (hl : l.length < 1000000) : Fn cfg 68 [p, u32P n] (· = getP l n) := by
  refine Fn.go Tryz.func68 (L := [(0, _), (1, _)]) rfl rfl rfl (by simp [deepL, hp.deep, deepB]) rfl ?_
  refine Ps.seq ?_
  refine Ps.region rfl ?_
  refine Rs.alloc (z := .agg [_, _, _, _]) (c := 4) rfl rfl rfl (fun g4 => ?_)
  refine Rs.assign (p := .lit _) rfl rfl ?_
  refine Rs.nil ?_
  refine Ps.thn ?_
  refine Ps.seq ?_
  refine Ps.seq ?_
  refine Ps.region rfl ?_
  refine Rs.move rfl rfl ?_
  first | refine Rs.lenD rfl rfl rfl rfl ?_ | refine Rs.lenO rfl rfl rfl rfl ?_ | refine Rs.lenI rfl rfl rfl rfl ?_ | refine Rs.lenA rfl rfl rfl rfl (by assumption) ?_ | refine Rs.lenS rfl rfl rfl rfl (by assumption) ?_
  refine Rs.move (p := .lit _) rfl rfl ?_
  refine Rs.nil ?_
  refine Ps.thn ?_
  refine Ps.block ?_
  -- loop 1 writes [5, 7, 10, 11, 12, 13, 14, 15, 16, 17, 18, 19]
  refine Ps.loop (J := Nat) ⟨fun j => j ≤ l.length ∧ find (l.drop j) n = find l n, fun j => [(10, i64P j)], fun _ => [(g4, 0, .blk 4 [accP noAcc] true)], fun j => l.length - j⟩ [5, 7, 10, 11, 12, 13, 14, 15, 16, 17, 18, 19] [(9, _), (8, _), (4, _), (0, _), (1, _)] 0 rfl ⟨Nat.zero_le _, rfl⟩ ⟨rfl, trivial⟩ (List.Sublist.refl _) (fun j hj => ?_)
  obtain ⟨hj, hjc⟩ : j ≤ l.length ∧ find (l.drop j) n = find l n := hj
  dsimp only [List.cons_append, List.nil_append]
  refine Ps.seq ?_
  refine Ps.region rfl ?_
  refine Rs.binB rfl rfl rfl rfl rfl rfl ?_
  refine Rs.nil ?_
  refine Ps.thn ?_
  refine Ps.seq ?_
  refine Ps.if rfl (fun hc => ?_) (fun hc => ?_)
  · try (first | replace hc := D1 hc | replace hc := D2 hc | replace hc := D3 hc | replace hc := D4 hc | replace hc := D5 hc | replace hc := D6 hc | replace hc := D7 hc | replace hc := D8 hc | replace hc := D9 hc | replace hc := D10 hc)
    refine Ps.skip ?_
    refine Ps.thn ?_
    refine Ps.seq ?_
    refine Ps.block ?_
    refine Ps.seq ?_
    have hlt : j < l.length := by simp at hc; omega
    obtain ⟨x, hx⟩ := at_lt hlt
    rw [find_drop hx] at hjc
    refine Ps.region rfl ?_
    first | refine Rs.indexD (lc := [_, _, _, _]) rfl rfl rfl rfl rfl rfl (map_at hx) rfl ?_ | refine Rs.indexS (lc := [_, _, _, _]) rfl rfl rfl rfl rfl (by assumption) rfl (map_at hx) rfl ?_
    first | refine Rs.loadR (p := .agg [_, _, _, _]) rfl rfl rfl rfl ?_ | refine Rs.loadP (p := .agg [_, _, _, _]) 0 rfl rfl rfl rfl rfl ?_ | refine Rs.loadP (p := .agg [_, _, _, _]) 1 rfl rfl rfl rfl rfl ?_ | refine Rs.loadP (p := .agg [_, _, _, _]) 2 rfl rfl rfl rfl rfl ?_ | refine Rs.loadP (p := .agg [_, _, _, _]) 3 rfl rfl rfl rfl rfl ?_
    refine Rs.alloc (z := .agg [_, _, _, _]) (c := 4) rfl rfl rfl (fun g7 => ?_)
    first | refine Rs.store0 (l' := [.agg [_, _, _, _]]) rfl rfl rfl (by first | rfl | exact storeB_ag rfl rfl rfl (by simp [scalars, sc_int, sc_str, sc_bool, sc_nil, sc_dsl, sc_own, sc_g, sc_f, *]) | exact storeB_fld rfl (by first | assumption | exact cl_g | exact cl_f) (by first | assumption | exact sc_g | exact sc_f) rfl) ?_ | refine Rs.store1 (l' := [.agg [_, _, _, _]]) rfl rfl rfl (by first | rfl | exact storeB_ag rfl rfl rfl (by simp [scalars, sc_int, sc_str, sc_bool, sc_nil, sc_dsl, sc_own, sc_g, sc_f, *]) | exact storeB_fld rfl (by first | assumption | exact cl_g | exact cl_f) (by first | assumption | exact sc_g | exact sc_f) rfl) ?_ | refine Rs.store2 (l' := [.agg [_, _, _, _]]) rfl rfl rfl (by first | rfl | exact storeB_ag rfl rfl rfl (by simp [scalars, sc_int, sc_str, sc_bool, sc_nil, sc_dsl, sc_own, sc_g, sc_f, *]) | exact storeB_fld rfl (by first | assumption | exact cl_g | exact cl_f) (by first | assumption | exact sc_g | exact sc_f) rfl) ?_ | refine Rs.store3 (l' := [.agg [_, _, _, _]]) rfl rfl rfl (by first | rfl | exact storeB_ag rfl rfl rfl (by simp [scalars, sc_int, sc_str, sc_bool, sc_nil, sc_dsl, sc_own, sc_g, sc_f, *]) | exact storeB_fld rfl (by first | assumption | exact cl_g | exact cl_f) (by first | assumption | exact sc_g | exact sc_f) rfl) ?_
    refine Rs.nil ?_
    refine Ps.thn ?_
    refine Ps.seq ?_
    refine Ps.region rfl ?_
    first | refine Rs.fieldAddrD (off' := 0) rfl rfl rfl rfl ?_ | refine Rs.fieldAddrP (off' := 0) rfl rfl rfl rfl ?_
    first | refine Rs.loadR rfl rfl rfl rfl ?_ | refine Rs.loadP 0 rfl rfl rfl rfl rfl ?_ | refine Rs.loadP 1 rfl rfl rfl rfl rfl ?_ | refine Rs.loadP 2 rfl rfl rfl rfl rfl ?_ | refine Rs.loadP 3 rfl rfl rfl rfl rfl ?_
    refine Rs.move rfl rfl ?_
    refine Rs.binB rfl rfl rfl rfl rfl rfl ?_
    refine Rs.nil ?_
    refine Ps.thn ?_
    refine Ps.if rfl (fun hc => ?_) (fun hc => ?_)
    · try (first | replace hc := D1 hc | replace hc := D2 hc | replace hc := D3 hc | replace hc := D4 hc | replace hc := D5 hc | replace hc := D6 hc | replace hc := D7 hc | replace hc := D8 hc | replace hc := D9 hc | replace hc := D10 hc)
      refine Ps.seq ?_
      refine Ps.region rfl ?_
      first | refine Rs.loadR (p := .agg [_, _, _, _]) rfl rfl rfl rfl ?_ | refine Rs.loadP (p := .agg [_, _, _, _]) 0 rfl rfl rfl rfl rfl ?_ | refine Rs.loadP (p := .agg [_, _, _, _]) 1 rfl rfl rfl rfl rfl ?_ | refine Rs.loadP (p := .agg [_, _, _, _]) 2 rfl rfl rfl rfl rfl ?_ | refine Rs.loadP (p := .agg [_, _, _, _]) 3 rfl rfl rfl rfl rfl ?_
      first | refine Rs.store0 (l' := [.agg [_, _, _, _]]) rfl rfl rfl (by first | rfl | exact storeB_ag rfl rfl rfl (by simp [scalars, sc_int, sc_str, sc_bool, sc_nil, sc_dsl, sc_own, sc_g, sc_f, *]) | exact storeB_fld rfl (by first | assumption | exact cl_g | exact cl_f) (by first | assumption | exact sc_g | exact sc_f) rfl) ?_ | refine Rs.store1 (l' := [.agg [_, _, _, _]]) rfl rfl rfl (by first | rfl | exact storeB_ag rfl rfl rfl (by simp [scalars, sc_int, sc_str, sc_bool, sc_nil, sc_dsl, sc_own, sc_g, sc_f, *]) | exact storeB_fld rfl (by first | assumption | exact cl_g | exact cl_f) (by first | assumption | exact sc_g | exact sc_f) rfl) ?_ | refine Rs.store2 (l' := [.agg [_, _, _, _]]) rfl rfl rfl (by first | rfl | exact storeB_ag rfl rfl rfl (by simp [scalars, sc_int, sc_str, sc_bool, sc_nil, sc_dsl, sc_own, sc_g, sc_f, *]) | exact storeB_fld rfl (by first | assumption | exact cl_g | exact cl_f) (by first | assumption | exact sc_g | exact sc_f) rfl) ?_ | refine Rs.store3 (l' := [.agg [_, _, _, _]]) rfl rfl rfl (by first | rfl | exact storeB_ag rfl rfl rfl (by simp [scalars, sc_int, sc_str, sc_bool, sc_nil, sc_dsl, sc_own, sc_g, sc_f, *]) | exact storeB_fld rfl (by first | assumption | exact cl_g | exact cl_f) (by first | assumption | exact sc_g | exact sc_f) rfl) ?_
      refine Rs.assign (p := .lit _) rfl rfl ?_
      refine Rs.nil ?_
      refine Ps.thn ?_
      refine Ps.ret ?_
      refine Ps.blk_ret ?_
      refine Ps.thn_ret ?_
      refine Ps.rnd_ret ?_
      refine Ps.blk_ret ?_
      refine Ps.thn_ret ?_
      -- leaf 1 (ret)
      refine Ps.finP (l := [_, _]) rfl (by (first | refine ResR.cell (p := .agg [_, _, _, _]) 0 rfl rfl rfl ?_ | refine ResR.cell (p := .agg [_, _, _, _]) 1 rfl rfl rfl ?_ | refine ResR.cell (p := .agg [_, _, _, _]) 2 rfl rfl rfl ?_ | refine ResR.cell (p := .agg [_, _, _, _]) 3 rfl rfl rfl ?_); refine ResR.tmp rfl ?_; exact ResR.nil) (by first | rfl | simp [plainP, plainC, cp_lit, cp_dsl, *]) rfl ?_
      first
        | (rw [if_pos (by simpa using hc)] at hjc; simp only [getP, ← hjc]; rfl)
        | (rw [List.drop_eq_nil_of_le (by simp at hc; omega)] at hjc; simp only [getP, ← hjc]; rfl)
    · try (first | replace hc := D1 hc | replace hc := D2 hc | replace hc := D3 hc | replace hc := D4 hc | replace hc := D5 hc | replace hc := D6 hc | replace hc := D7 hc | replace hc := D8 hc | replace hc := D9 hc | replace hc := D10 hc)
      refine Ps.skip ?_
      refine Ps.blk ?_
      refine Ps.thn ?_
      refine Ps.region rfl ?_
      refine Rs.add rfl rfl rfl (by first | exact W_i64s (by omega) | exact W_i64 (by omega) (by omega) | rfl) ?_
      refine Rs.move rfl rfl ?_
      refine Rs.nil ?_
      -- leaf 2 (round1)
      refine Ps.round (j + 1) ⟨hlt, ?_⟩ (by show l.length - (j + 1) < l.length - j; omega) ⟨rfl, trivial⟩ (by repeat' first | exact HasL.nil | refine HasL.cons rfl ?_) (by repeat' first | exact List.Sublist.refl _ | exact List.nil_sublist _ | exact List.sublist_append_left _ _ | refine List.Sublist.cons₂ _ ?_ | refine List.Sublist.cons _ ?_)
      rw [if_neg (by simpa using hc)] at hjc
      exact hjc
  · try (first | replace hc := D1 hc | replace hc := D2 hc | replace hc := D3 hc | replace hc := D4 hc | replace hc := D5 hc | replace hc := D6 hc | replace hc := D7 hc | replace hc := D8 hc | replace hc := D9 hc | replace hc := D10 hc)
    refine Ps.exit ?_
    refine Ps.thn_exit ?_
    refine Ps.rnd_exit ?_
    refine Ps.blk_here ?_
    refine Ps.thn ?_
    refine Ps.seq ?_
    refine Ps.region rfl ?_
    refine Rs.buildB (cs := []) (l := [_, _, _, _]) rfl rfl (by first | rfl | simp only [cellsOf]; rfl) rfl ?_
    first | refine Rs.store0 (l' := [.agg [_, _, _, _]]) rfl rfl rfl (by first | rfl | exact storeB_ag rfl rfl rfl (by simp [scalars, sc_int, sc_str, sc_bool, sc_nil, sc_dsl, sc_own, sc_g, sc_f, *]) | exact storeB_fld rfl (by first | assumption | exact cl_g | exact cl_f) (by first | assumption | exact sc_g | exact sc_f) rfl) ?_ | refine Rs.store1 (l' := [.agg [_, _, _, _]]) rfl rfl rfl (by first | rfl | exact storeB_ag rfl rfl rfl (by simp [scalars, sc_int, sc_str, sc_bool, sc_nil, sc_dsl, sc_own, sc_g, sc_f, *]) | exact storeB_fld rfl (by first | assumption | exact cl_g | exact cl_f) (by first | assumption | exact sc_g | exact sc_f) rfl) ?_ | refine Rs.store2 (l' := [.agg [_, _, _, _]]) rfl rfl rfl (by first | rfl | exact storeB_ag rfl rfl rfl (by simp [scalars, sc_int, sc_str, sc_bool, sc_nil, sc_dsl, sc_own, sc_g, sc_f, *]) | exact storeB_fld rfl (by first | assumption | exact cl_g | exact cl_f) (by first | assumption | exact sc_g | exact sc_f) rfl) ?_ | refine Rs.store3 (l' := [.agg [_, _, _, _]]) rfl rfl rfl (by first | rfl | exact storeB_ag rfl rfl rfl (by simp [scalars, sc_int, sc_str, sc_bool, sc_nil, sc_dsl, sc_own, sc_g, sc_f, *]) | exact storeB_fld rfl (by first | assumption | exact cl_g | exact cl_f) (by first | assumption | exact sc_g | exact sc_f) rfl) ?_
    refine Rs.assign (p := .lit _) rfl rfl ?_
    refine Rs.nil ?_
    refine Ps.thn ?_
    refine Ps.ret ?_
    -- leaf 3 (ret)
    refine Ps.finP (l := [_, _]) rfl (by (first | refine ResR.cell (p := .agg [_, _, _, _]) 0 rfl rfl rfl ?_ | refine ResR.cell (p := .agg [_, _, _, _]) 1 rfl rfl rfl ?_ | refine ResR.cell (p := .agg [_, _, _, _]) 2 rfl rfl rfl ?_ | refine ResR.cell (p := .agg [_, _, _, _]) 3 rfl rfl rfl ?_); refine ResR.tmp rfl ?_; exact ResR.nil) (by first | rfl | simp [plainP, plainC, cp_lit, cp_dsl, *]) rfl ?_
    first
      | (rw [if_pos (by simpa using hc)] at hjc; simp only [getP, ← hjc]; rfl)
      | (rw [List.drop_eq_nil_of_le (by simp at hc; omega)] at hjc; simp only [getP, ← hjc]; rfl)
def WayJ := List Int × Int × Option (Nat × Nat)
theorem way_ok (l : List Acc) (p : PV) (n : Int) (hp : IsSl 4 (l.map accP) p) (hl : l.length < 1000000) : Fn cfg 86 [p, u32P n] (· = slP 1 ((way l 13 n).map u32P)) := by
  refine Fn.go Tryz.func86 (L := [(0, _), (1, _)]) rfl rfl rfl (by simp [deepL, hp.deep, deepB]) rfl ?_
  refine Ps.seq ?_
  refine Ps.region rfl ?_
  refine Rs.assign (p := .lit _) rfl rfl ?_
  refine Rs.nil ?_
  refine Ps.thn ?_
  refine Ps.seq ?_
  refine Ps.region rfl ?_
  refine Rs.assign (p := .lit _) rfl rfl ?_
  refine Rs.nil ?_
  refine Ps.thn ?_
  refine Ps.seq ?_
  refine Ps.block ?_
  -- loop 1 writes [1, 5, 6, 7, 8, 9, 10, 11, 12, 13, 14, 15, 16, 17, 18, 19, 20, 21, 22, 23, 24]
  refine Ps.loop (J := List Int × Int × Option (Nat × Nat)) ⟨fun j => j.1.length ≤ 13 ∧ j.1 ++ way l (13 - j.1.length) j.2.1 = way l 13 n ∧ (j.2.2 = none ↔ j.1.map u32P = []), fun j => [(5, gP 1 j.2.2 (j.1.map u32P)), (1, u32P j.2.1)], fun j => gM 1 j.2.2 (j.1.map u32P) ++ [], fun j => 13 - j.1.length⟩ [1, 5, 6, 7, 8, 9, 10, 11, 12, 13, 14, 15, 16, 17, 18, 19, 20, 21, 22, 23, 24] [(4, _), (0, _)] ([], n, none) rfl ⟨by simp, rfl, by simp⟩ ⟨rfl, rfl, trivial⟩ (List.Sublist.refl _) (fun j hj => ?_)
  obtain ⟨acc, code, a⟩ := j
  obtain ⟨hj, hjc, ha⟩ : acc.length ≤ 13 ∧ acc ++ way l (13 - acc.length) code = way l 13 n ∧ (a = none ↔ acc.map u32P = []) := hj
  dsimp only [List.cons_append, List.nil_append]
  refine Ps.seq ?_
  refine Ps.seq ?_
  refine Ps.region rfl ?_
  refine Rs.move rfl rfl ?_
  first | refine Rs.lenD rfl rfl rfl rfl ?_ | refine Rs.lenO rfl rfl rfl rfl ?_ | refine Rs.lenI rfl rfl rfl rfl ?_ | refine Rs.lenA rfl rfl rfl rfl (by assumption) ?_ | refine Rs.lenS rfl rfl rfl rfl (by assumption) ?_
  refine Rs.binB rfl rfl rfl rfl rfl rfl ?_
  refine Rs.nil ?_
  refine Ps.thn ?_
  refine Ps.if rfl (fun hc => ?_) (fun hc => ?_)
  · try (first | replace hc := D1 hc | replace hc := D2 hc | replace hc := D3 hc | replace hc := D4 hc | replace hc := D5 hc | replace hc := D6 hc | replace hc := D7 hc | replace hc := D8 hc | replace hc := D9 hc | replace hc := D10 hc)
    refine Ps.skip ?_
    refine Ps.thn ?_
    refine Ps.block ?_
    refine Ps.seq ?_
    have hlt : acc.length < 13 := by simp at hc; omega
    refine Ps.region rfl ?_
    refine Rs.move rfl rfl ?_
    refine Rs.move rfl rfl ?_
    refine Rs.call1 rfl rfl rfl (fun H hH => DpL.top (n := 95000) (by repeat' first | exact DpL.nil | refine DpL.cons (Dp.plain 95000 rfl rfl) ?_ | refine DpL.cons (Dp.sl 95000 (by assumption)) ?_ | refine DpL.cons (Dp.g (by assumption) hH (fun x hx => by simp [hx]) (by intro p hp; obtain ⟨x, _, rfl⟩ := List.mem_map.1 hp; rfl) (by simp; omega)) ?_) rfl) (get_ok l _ _ hp hl) (by first | (intro p hp; rw [hp]; rfl) | (rintro p ⟨r, rfl, _⟩; rfl)) (fun p14 hp => ?_)
    obtain rfl := hp
    refine Rs.move rfl rfl ?_
    refine Rs.extract rfl rfl rfl ?_
    refine Rs.extract rfl rfl rfl ?_
    refine Rs.alloc (z := .agg [_, _, _, _]) (c := 4) rfl rfl rfl (fun g6 => ?_)
    first | refine Rs.store0 (l' := [.agg [_, _, _, _]]) rfl rfl rfl (by first | rfl | exact storeB_ag rfl rfl rfl (by simp [scalars, sc_int, sc_str, sc_bool, sc_nil, sc_dsl, sc_own, sc_g, sc_f, *]) | exact storeB_fld rfl (by first | assumption | exact cl_g | exact cl_f) (by first | assumption | exact sc_g | exact sc_f) rfl) ?_ | refine Rs.store1 (l' := [.agg [_, _, _, _]]) rfl rfl rfl (by first | rfl | exact storeB_ag rfl rfl rfl (by simp [scalars, sc_int, sc_str, sc_bool, sc_nil, sc_dsl, sc_own, sc_g, sc_f, *]) | exact storeB_fld rfl (by first | assumption | exact cl_g | exact cl_f) (by first | assumption | exact sc_g | exact sc_f) rfl) ?_ | refine Rs.store2 (l' := [.agg [_, _, _, _]]) rfl rfl rfl (by first | rfl | exact storeB_ag rfl rfl rfl (by simp [scalars, sc_int, sc_str, sc_bool, sc_nil, sc_dsl, sc_own, sc_g, sc_f, *]) | exact storeB_fld rfl (by first | assumption | exact cl_g | exact cl_f) (by first | assumption | exact sc_g | exact sc_f) rfl) ?_ | refine Rs.store3 (l' := [.agg [_, _, _, _]]) rfl rfl rfl (by first | rfl | exact storeB_ag rfl rfl rfl (by simp [scalars, sc_int, sc_str, sc_bool, sc_nil, sc_dsl, sc_own, sc_g, sc_f, *]) | exact storeB_fld rfl (by first | assumption | exact cl_g | exact cl_f) (by first | assumption | exact sc_g | exact sc_f) rfl) ?_
    refine Rs.assign rfl rfl ?_
    refine Rs.nil ?_
    refine Ps.thn ?_
    refine Ps.seq ?_
    refine Ps.seq ?_
    refine Ps.region rfl ?_
    refine Rs.move rfl rfl ?_
    refine Rs.not rfl rfl ?_
    refine Rs.nil ?_
    refine Ps.thn ?_
    refine Ps.if rfl (fun hc => ?_) (fun hc => ?_)
    · try (first | replace hc := D1 hc | replace hc := D2 hc | replace hc := D3 hc | replace hc := D4 hc | replace hc := D5 hc | replace hc := D6 hc | replace hc := D7 hc | replace hc := D8 hc | replace hc := D9 hc | replace hc := D10 hc)
      refine Ps.exit ?_
      refine Ps.thn_exit ?_
      refine Ps.blk_there rfl ?_
      refine Ps.rnd_exit ?_
      refine Ps.blk_here ?_
      refine Ps.thn ?_
      refine Ps.seq ?_
      refine Ps.region rfl ?_
      refine Rs.move rfl rfl ?_
      refine Rs.assign rfl rfl ?_
      refine Rs.nil ?_
      refine Ps.thn ?_
      refine Ps.ret ?_
      -- leaf 1 (ret)
      refine Ps.finG (a := a) rfl (.tmp rfl .nil) ha (by simp) (by intro q hq; obtain ⟨z, _, rfl⟩ := List.mem_map.1 hq; rfl) (by simp; omega) ?_
      congr 2
      rw [← hjc]
      first
        | (have hs : find l code = none := by simpa using hc
           rw [show 13 - acc.length = 13 - acc.length - 1 + 1 by omega, way, hs]; simp)
        | (rw [show 13 - acc.length = 0 by simp at hc; omega, way]; simp)
    · try (first | replace hc := D1 hc | replace hc := D2 hc | replace hc := D3 hc | replace hc := D4 hc | replace hc := D5 hc | replace hc := D6 hc | replace hc := D7 hc | replace hc := D8 hc | replace hc := D9 hc | replace hc := D10 hc)
      refine Ps.skip ?_
      refine Ps.thn ?_
      refine Ps.seq ?_
      refine Ps.region rfl ?_
      refine Rs.move rfl rfl ?_
      refine Rs.move rfl rfl ?_
      refine Rs.buildSlice (l := [_]) rfl rfl rfl rfl (by first | rfl | simp [deepL, deepB, *]) ?_
      first | refine Rs.append0 1 4 rfl rfl ⟨_, rfl⟩ rfl rfl rfl rfl rfl rfl rfl rfl rfl rfl (by assumption) rfl (by first | rfl | simp [scalarsE, scalars, PV.cells, sc_int, sc_str, sc_bool, sc_nil, sc_dsl, *]) (by simp; omega) (fun a22 ha22 => ?_) | refine Rs.append1 1 4 rfl rfl ⟨_, rfl⟩ rfl rfl rfl rfl rfl rfl rfl rfl rfl rfl (by assumption) rfl (by first | rfl | simp [scalarsE, scalars, PV.cells, sc_int, sc_str, sc_bool, sc_nil, sc_dsl, *]) (by simp; omega) (fun a22 ha22 => ?_) | refine Rs.append2 1 4 rfl rfl ⟨_, rfl⟩ rfl rfl rfl rfl rfl rfl rfl rfl rfl rfl (by assumption) rfl (by first | rfl | simp [scalarsE, scalars, PV.cells, sc_int, sc_str, sc_bool, sc_nil, sc_dsl, *]) (by simp; omega) (fun a22 ha22 => ?_) | refine Rs.append3 1 4 rfl rfl ⟨_, rfl⟩ rfl rfl rfl rfl rfl rfl rfl rfl rfl rfl (by assumption) rfl (by first | rfl | simp [scalarsE, scalars, PV.cells, sc_int, sc_str, sc_bool, sc_nil, sc_dsl, *]) (by simp; omega) (fun a22 ha22 => ?_)
      refine Rs.assign rfl rfl ?_
      refine Rs.nil ?_
      refine Ps.thn ?_
      refine Ps.region rfl ?_
      first | refine Rs.fieldAddrD (off' := 3) rfl rfl rfl rfl ?_ | refine Rs.fieldAddrP (off' := 3) rfl rfl rfl rfl ?_
      first | refine Rs.loadR rfl rfl rfl rfl ?_ | refine Rs.loadP 0 rfl rfl rfl rfl rfl ?_ | refine Rs.loadP 1 rfl rfl rfl rfl rfl ?_ | refine Rs.loadP 2 rfl rfl rfl rfl rfl ?_ | refine Rs.loadP 3 rfl rfl rfl rfl rfl ?_
      refine Rs.assign rfl rfl ?_
      refine Rs.nil ?_
      refine Ps.blk ?_
      -- leaf 2 (round1)
      have hs : (find l code).isSome = true := by simpa using hc
      obtain ⟨x, hx⟩ := Option.isSome_iff_exists.1 hs
      have ee : List.map u32P acc ++ [u32P code] = List.map u32P (acc ++ [code]) := by simp
      rw [ee] at ha22 ⊢
      refine Ps.round (acc ++ [code], x.parent, a22) ⟨by simp; omega, ?_, ha22⟩ (by show 13 - (acc ++ [code]).length < 13 - acc.length; simp; omega) ⟨rfl, ?_, trivial⟩ (by repeat' first | exact HasL.nil | refine HasL.cons rfl ?_) (List.sublist_cons_self _ _)
      · show (acc ++ [code]) ++ way l (13 - (acc ++ [code]).length) x.parent = _
        rw [← hjc, show 13 - acc.length = 13 - (acc ++ [code]).length + 1 by simp; omega, way, hx]
        simp
      · rw [hx]; rfl
  · try (first | replace hc := D1 hc | replace hc := D2 hc | replace hc := D3 hc | replace hc := D4 hc | replace hc := D5 hc | replace hc := D6 hc | replace hc := D7 hc | replace hc := D8 hc | replace hc := D9 hc | replace hc := D10 hc)
    refine Ps.exit ?_
    refine Ps.thn_exit ?_
    refine Ps.rnd_exit ?_
    refine Ps.blk_here ?_
    refine Ps.thn ?_
    refine Ps.seq ?_
    refine Ps.region rfl ?_
    refine Rs.move rfl rfl ?_
    refine Rs.assign rfl rfl ?_
    refine Rs.nil ?_
    refine Ps.thn ?_
    refine Ps.ret ?_
    -- leaf 3 (ret)
    refine Ps.finG (a := a) rfl (.tmp rfl .nil) ha (by simp) (by intro q hq; obtain ⟨z, _, rfl⟩ := List.mem_map.1 hq; rfl) (by simp; omega) ?_
    congr 2
    rw [← hjc]
    first
      | (have hs : find l code = none := by simpa using hc
         rw [show 13 - acc.length = 13 - acc.length - 1 + 1 by omega, way, hs]; simp)
      | (rw [show 13 - acc.length = 0 by simp at hc; omega, way]; simp)
theorem deep_ok (l : List Acc) (p : PV) (n : Int) (hp : IsSl 4 (l.map accP) p) (hl : l.length < 1000000) : Fn cfg 69 [p, u32P n] (· = i64P (way l 13 n).length) := by
  refine Fn.go Tryz.func69 (L := [(0, _), (1, _)]) rfl rfl rfl (by simp [deepL, hp.deep, deepB]) rfl ?_
  refine Ps.seq ?_
  refine Ps.region rfl ?_
  refine Rs.assign (p := .lit _) rfl rfl ?_
  refine Rs.nil ?_
  refine Ps.thn ?_
  refine Ps.seq ?_
  have hw := slP_is 1 ((way l 13 n).map u32P)
  refine Ps.region rfl ?_
  refine Rs.move rfl rfl ?_
  refine Rs.move rfl rfl ?_
  refine Rs.call0 rfl rfl rfl (way_ok l _ _ hp hl) (fun p7 hp => ?_)
  obtain rfl := hp
  first | refine Rs.lenD rfl rfl rfl rfl ?_ | refine Rs.lenO rfl rfl rfl rfl ?_ | refine Rs.lenI rfl rfl rfl rfl ?_ | refine Rs.lenA rfl rfl rfl rfl (by assumption) ?_ | refine Rs.lenS rfl rfl rfl rfl (by assumption) ?_
  refine Rs.assign rfl rfl ?_
  refine Rs.nil ?_
  refine Ps.thn ?_
  refine Ps.ret ?_
  -- leaf 1 (ret)
  refine Ps.finP (l := [_]) rfl (by refine ResR.tmp rfl ?_; exact ResR.nil) (by first | rfl | simp [plainP, plainC, cp_lit, cp_dsl, *]) rfl ?_
  simp [one]
def nameB (n : Int) : ByteArray := (([(⟨#[67, 97, 115, 104]⟩ : ByteArray), (⟨#[97]⟩ : ByteArray), (⟨#[66, 97, 110, 107, 32, 49]⟩ : ByteArray), (⟨#[76, 111, 115, 115, 46, 120]⟩ : ByteArray), (⟨#[49, 50, 51, 52, 53, 54, 55, 56, 57, 48, 49, 50, 51, 52, 53, 54, 55, 56, 57, 48, 49, 50, 51, 52, 53, 54, 55, 56, 57, 48]⟩ : ByteArray)] : List ByteArray)[(n % 5).toNat]?).getD .empty
theorem nameB_ok (n : Int) : NameOk (nameB n) := by
  have : n % 5 = 0 ∨ n % 5 = 1 ∨ n % 5 = 2 ∨ n % 5 = 3 ∨ n % 5 = 4 := by omega
  rcases this with e | e | e | e | e <;> unfold nameB <;> rw [e]
  · exact ⟨⟨0, by omega⟩, rfl⟩
  · exact ⟨⟨1, by omega⟩, rfl⟩
  · exact ⟨⟨2, by omega⟩, rfl⟩
  · exact ⟨⟨3, by omega⟩, rfl⟩
  · exact ⟨⟨4, by omega⟩, rfl⟩
theorem name_ok (n : Int) (h0 : 0 ≤ n) : Fn cfg 77 [u8P n] (· = strP (nameB n)) := by
  refine Fn.go Tryz.func77 (L := [(0, _)]) rfl rfl rfl (by first | rfl | (simp [deepL, deepB, *]; done) | (simp [deepL, deepB, *]; rfl)) rfl ?_
  refine Ps.seq ?_
  refine Ps.region rfl ?_
  refine Rs.assign (p := .lit _) rfl rfl ?_
  refine Rs.nil ?_
  refine Ps.thn ?_
  refine Ps.seq ?_
  obtain ⟨k, hk, hk5⟩ : ∃ k : Nat, n % 5 = (k : Int) ∧ k < 5 := ⟨(n % 5).toNat, by omega, by omega⟩
  refine Ps.region rfl ?_
  refine Rs.buildSlice (l := [_, _, _, _, _]) rfl rfl rfl rfl (by first | rfl | simp [deepL, deepB, *]) ?_
  refine Rs.move rfl rfl ?_
  refine Rs.rem rfl rfl rfl (by omega) (by first | exact Int.tmod_eq_emod_of_nonneg (by omega) | rfl) ?_
  first | refine Rs.indexD (lc := [_]) rfl rfl rfl rfl rfl hk (p := strP (nameB n)) (by have : k = 0 ∨ k = 1 ∨ k = 2 ∨ k = 3 ∨ k = 4 := (by omega); unfold nameB; rw [hk]; rcases this with rfl | rfl | rfl | rfl | rfl <;> rfl) rfl ?_ | refine Rs.indexS (lc := [_]) rfl rfl rfl rfl rfl (by assumption) hk (p := strP (nameB n)) (by have : k = 0 ∨ k = 1 ∨ k = 2 ∨ k = 3 ∨ k = 4 := (by omega); unfold nameB; rw [hk]; rcases this with rfl | rfl | rfl | rfl | rfl <;> rfl) rfl ?_
  first | refine Rs.loadR rfl rfl rfl rfl ?_ | refine Rs.loadP 0 rfl rfl rfl rfl rfl ?_ | refine Rs.loadP 1 rfl rfl rfl rfl rfl ?_ | refine Rs.loadP 2 rfl rfl rfl rfl rfl ?_ | refine Rs.loadP 3 rfl rfl rfl rfl rfl ?_
  refine Rs.assign rfl rfl ?_
  refine Rs.nil ?_
  refine Ps.thn ?_
  refine Ps.ret ?_
  -- leaf 1 (ret)
  refine Ps.finP (l := [_]) rfl (by refine ResR.tmp rfl ?_; exact ResR.nil) (by first | rfl | simp [plainP, plainC, cp_lit, cp_dsl, *]) rfl ?_
  rfl
end Go.Proofs.YtddaogebacigbaaGreatDoor.RV.T
