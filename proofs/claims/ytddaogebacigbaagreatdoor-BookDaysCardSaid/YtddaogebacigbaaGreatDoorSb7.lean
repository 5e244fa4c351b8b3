/- A part of the symbolic runs of functions by the evaluator (TB7). Conditions: none. -/
import Derived.Test.YtddaogebacigbaaGreatDoorSb6
import Derived.Test.YtddaogebacigbaaGreatDoorSb5
import Derived.Test.YtddaogebacigbaaGreatDoorSb4
import Derived.Test.YtddaogebacigbaaGreatDoorSb3
import Derived.Test.YtddaogebacigbaaGreatDoorSb2
import Derived.Test.YtddaogebacigbaaGreatDoorSb1
import Derived.Test.YtddaogebacigbaaGreatDoorSvK
import Derived.Test.YtddaogebacigbaaGreatDoorSvS
open Go Go.Proofs.YtddaogebacigbaaGreatDoor.RV Go.Proofs.YtddaogebacigbaaGreatDoor.XA.Awk Go.Proofs.YtddaogebacigbaaGreatDoor.RV.ChartMath Go.Proofs
namespace Go.Proofs.YtddaogebacigbaaGreatDoor.RV.T
set_option maxRecDepth 100000
set_option linter.unusedVariables false
set_option linter.unusedSimpArgs false
def sm : List Ln → Int → Int
  | [], _ => 0
  | l :: r, q => (if l.ent = q then l.amt else 0) + sm r q
theorem sm_app : ∀ (a b : List Ln) (q : Int), sm (a ++ b) q = sm a q + sm b q
  | [], b, q => by simp [sm]
  | l :: r, b, q => by simp only [List.cons_append, sm, sm_app r b q]; omega
def AmtOk (l : Ln) : Prop := l.amt ≠ 0 ∧ -288230376151711744 < l.amt ∧ l.amt < 288230376151711744
theorem sm_bd : ∀ (a : List Ln) (q : Int), (∀ l ∈ a, AmtOk l) → -288230376151711744 * (a.length : Int) ≤ sm a q ∧ sm a q ≤ 288230376151711744 * (a.length : Int)
  | [], q, _ => by simp [sm]
  | l :: r, q, h => by
    have ih := sm_bd r q (fun x hx => h x (by simp [hx]))
    have := h l (by simp)
    unfold AmtOk at this
    simp only [sm, List.length_cons]
    split <;> omega
theorem sm_none : ∀ (a : List Ln) (q : Int), (∀ l ∈ a, l.ent ≠ q) → sm a q = 0
  | [], _, _ => rfl
  | l :: r, q, h => by simp only [sm]; rw [if_neg (h l (by simp)), sm_none r q (fun x hx => h x (by simp [hx]))]; rfl
theorem tmod_bd (a : Int) : -288230376151711744 < a.tmod 288230376151711744 ∧ a.tmod 288230376151711744 < 288230376151711744 :=
  ⟨by have := Int.lt_tmod_of_pos a (show (0 : Int) < 288230376151711744 by decide); omega, Int.tmod_lt_of_pos a (by decide)⟩
/-- What a made journal's lines are. -/
structure LinesOk (ch : List Acc) (un : List Int) (out : List Ln) : Prop where
  allin : ∀ l ∈ out, LnIn ch un l
  amt : ∀ l ∈ out, l.amt ≠ 0 ∧ -2305843009213693952 ≤ l.amt ∧ l.amt ≤ 2305843009213693952
  sums : ∀ q, sm out q = 0
  len : out.length ≤ 17
theorem lines_ok (y : JV) (hy : ∀ z ∈ y.lines, LvOk z) (hl : y.lines.length ≤ 8) (ch : List Acc) (un st : List Int) (en : Int) (cp up sp : PV) (hcp : IsSl 4 (ch.map accP) cp) (hup : IsSl 1 (un.map u16P) up) (hsp : IsSl 1 (st.map i32P) sp) (hM : Made ch) (hU : MadeU un) (hc0 : ch ≠ []) (hu0 : un ≠ []) :
    Fn cfg 54 [jvP y, .agg [cp, up, sp, i32P en]] (fun q => ∃ out, LinesOk ch un out ∧ q = slP 4 (out.map lnP)) := by
  obtain ⟨cd, cs, cc, cl, cq⟩ := hcp.all
  obtain ⟨ud, us, uc, ul, uq⟩ := hup.all
  obtain ⟨sd, ss, sc, sl, sq⟩ := hsp.all
  have hchl := hM.len
  have hcp0 := List.length_pos_iff.2 hc0
  have hup0 := List.length_pos_iff.2 hu0
  have hunl := hU.len
  have hcm : (ch.map accP).length = ch.length := List.length_map ..
  have hum : (un.map u16P).length = un.length := List.length_map ..
  refine Fn.go Tryz.func54 (L := [(0, _), (1, _)]) rfl rfl rfl (by first | rfl | (simp [deepL, deepB, *]; done) | (simp [deepL, deepB, *]; rfl)) rfl ?_
  refine Ps.seq ?_
  refine Ps.region rfl ?_
  refine Rs.box (l := [_, _]) rfl rfl rfl (by first | rfl | simp [deepB, deepL, *]) rfl ?_
  refine Rs.box (l := [_, _, _, _]) rfl rfl rfl (by first | rfl | simp [deepB, deepL, *]) rfl ?_
  refine Rs.assign (p := .lit _) rfl rfl ?_
  refine Rs.nil ?_
  refine Ps.thn ?_
  refine Ps.seq ?_
  refine Ps.region rfl ?_
  refine Rs.assign (p := .lit _) rfl rfl ?_
  refine Rs.nil ?_
  refine Ps.thn ?_
  refine Ps.seq ?_
  refine Ps.region rfl ?_
  refine Rs.makeMap rfl rfl .u16 (fun g12 => ?_)
  refine Rs.assign rfl rfl ?_
  refine Rs.nil ?_
  refine Ps.thn ?_
  refine Ps.seq ?_
  refine Ps.seq ?_
  refine Ps.region rfl ?_
  first | refine Rs.fieldAddrD (off' := 1) rfl rfl rfl rfl ?_ | refine Rs.fieldAddrP (off' := 1) rfl rfl rfl rfl ?_
  refine Rs.loadD rfl rfl rfl rfl ?_
  first | refine Rs.lenD rfl rfl rfl rfl ?_ | refine Rs.lenO rfl rfl rfl rfl ?_ | refine Rs.lenI rfl rfl rfl rfl ?_ | refine Rs.lenA rfl rfl rfl rfl (by assumption) ?_ | refine Rs.lenS rfl rfl rfl rfl (by assumption) ?_
  refine Rs.move (p := .lit _) rfl rfl ?_
  refine Rs.nil ?_
  refine Ps.thn ?_
  refine Ps.block ?_
  -- loop 1 writes [5, 8, 9, 16, 17, 18, 19, 20, 21, 22, 23, 24, 25, 26, 27, 28, 29, 30, 31, 32, 33, 34, 35, 36, 37, 38, 39, 40, 41, 42]
  refine Ps.loop (J := Nat × List Ln × Option (Nat × Nat) × Ents × Nat) ⟨fun j => j.1 ≤ y.lines.length ∧ j.2.1.length = j.1 ∧ (∀ l ∈ j.2.1, LnIn ch un l) ∧ (∀ l ∈ j.2.1, AmtOk l) ∧ (∀ q, (mget j.2.2.2.1 q).getD (i64P 0) = i64P (sm j.2.1 q)) ∧ (j.2.2.1 = none ↔ j.2.1.map lnP = []), fun j => [(5, gP 4 j.2.2.1 (j.2.1.map lnP)), (16, i64P j.1)], fun j => (g12, 0, mapO .u16 j.2.2.2.1 j.2.2.2.2) :: (gM 4 j.2.2.1 (j.2.1.map lnP) ++ []), fun j => y.lines.length - j.1⟩ [5, 8, 9, 16, 17, 18, 19, 20, 21, 22, 23, 24, 25, 26, 27, 28, 29, 30, 31, 32, 33, 34, 35, 36, 37, 38, 39, 40, 41, 42] [(15, _), (14, _), (13, _), (6, _), (12, _), (4, _), (3, _), (2, _), (0, _), (1, _)] (0, [], none, [], 0) rfl ⟨Nat.zero_le _, rfl, by simp, by simp, fun q => rfl, by simp⟩ ⟨rfl, rfl, trivial⟩ (List.Sublist.refl _) (fun j hj => ?_)
  obtain ⟨j, out, a, ms, clk⟩ := j
  obtain ⟨hj, hol, hin, ham, hS, ha⟩ : j ≤ y.lines.length ∧ out.length = j ∧ (∀ l ∈ out, LnIn ch un l) ∧ (∀ l ∈ out, AmtOk l) ∧ (∀ q, (mget ms q).getD (i64P 0) = i64P (sm out q)) ∧ (a = none ↔ out.map lnP = []) := hj
  dsimp only [List.cons_append, List.nil_append]
  refine Ps.seq ?_
  refine Ps.region rfl ?_
  refine Rs.binB rfl rfl rfl rfl rfl rfl ?_
  refine Rs.nil ?_
  refine Ps.thn ?_
  refine Ps.seq ?_
  refine Ps.if rfl (fun hc => ?_) (fun hc => ?_)
  · try (first | replace hc := D1 hc | replace hc := D2 hc | replace hc := D3 hc | replace hc := D4 hc | replace hc := D5 hc | replace hc := D6 hc | replace hc := D7 hc | replace hc := D8 hc | replace hc := D9 hc | replace hc := D10 hc)
    refine Ps.skip ?_
    refine Ps.thn ?_
    refine Ps.seq ?_
    refine Ps.block ?_
    refine Ps.seq ?_
    have hlt : j < y.lines.length := by simp at hc; omega
    obtain ⟨z, hz⟩ := at_lt hlt
    have hzo := hy z (List.mem_of_getElem? hz)
    refine Ps.region rfl ?_
    first | refine Rs.indexD (lc := [_, _, _, _]) rfl rfl rfl rfl rfl rfl (map_at hz) rfl ?_ | refine Rs.indexS (lc := [_, _, _, _]) rfl rfl rfl rfl rfl (by assumption) rfl (map_at hz) rfl ?_
    first | refine Rs.loadR (p := .agg [_, _, _, _]) rfl rfl rfl rfl ?_ | refine Rs.loadP (p := .agg [_, _, _, _]) 0 rfl rfl rfl rfl rfl ?_ | refine Rs.loadP (p := .agg [_, _, _, _]) 1 rfl rfl rfl rfl rfl ?_ | refine Rs.loadP (p := .agg [_, _, _, _]) 2 rfl rfl rfl rfl rfl ?_ | refine Rs.loadP (p := .agg [_, _, _, _]) 3 rfl rfl rfl rfl rfl ?_
    refine Rs.alloc (z := .agg [_, _, _, _]) (c := 4) rfl rfl rfl (fun g8 => ?_)
    first | refine Rs.store0 (l' := [.agg [_, _, _, _]]) rfl rfl rfl (by first | rfl | exact storeB_ag rfl rfl rfl (by simp [scalars, sc_int, sc_str, sc_bool, sc_nil, sc_dsl, sc_own, sc_g, sc_f, *]) | exact storeB_fld rfl (by first | assumption | exact cl_g | exact cl_f) (by first | assumption | exact sc_g | exact sc_f) rfl) ?_ | refine Rs.store1 (l' := [.agg [_, _, _, _]]) rfl rfl rfl (by first | rfl | exact storeB_ag rfl rfl rfl (by simp [scalars, sc_int, sc_str, sc_bool, sc_nil, sc_dsl, sc_own, sc_g, sc_f, *]) | exact storeB_fld rfl (by first | assumption | exact cl_g | exact cl_f) (by first | assumption | exact sc_g | exact sc_f) rfl) ?_ | refine Rs.store2 (l' := [.agg [_, _, _, _]]) rfl rfl rfl (by first | rfl | exact storeB_ag rfl rfl rfl (by simp [scalars, sc_int, sc_str, sc_bool, sc_nil, sc_dsl, sc_own, sc_g, sc_f, *]) | exact storeB_fld rfl (by first | assumption | exact cl_g | exact cl_f) (by first | assumption | exact sc_g | exact sc_f) rfl) ?_ | refine Rs.store3 (l' := [.agg [_, _, _, _]]) rfl rfl rfl (by first | rfl | exact storeB_ag rfl rfl rfl (by simp [scalars, sc_int, sc_str, sc_bool, sc_nil, sc_dsl, sc_own, sc_g, sc_f, *]) | exact storeB_fld rfl (by first | assumption | exact cl_g | exact cl_f) (by first | assumption | exact sc_g | exact sc_f) rfl) ?_
    refine Rs.nil ?_
    refine Ps.thn ?_
    refine Ps.seq ?_
    refine Ps.region rfl ?_
    first | refine Rs.loadR (p := .agg [_, _, _, _]) rfl rfl rfl rfl ?_ | refine Rs.loadP (p := .agg [_, _, _, _]) 0 rfl rfl rfl rfl rfl ?_ | refine Rs.loadP (p := .agg [_, _, _, _]) 1 rfl rfl rfl rfl rfl ?_ | refine Rs.loadP (p := .agg [_, _, _, _]) 2 rfl rfl rfl rfl rfl ?_ | refine Rs.loadP (p := .agg [_, _, _, _]) 3 rfl rfl rfl rfl rfl ?_
    refine Rs.loadD (p := .agg [_, _, _, _]) rfl rfl rfl rfl ?_
    refine Rs.call0 rfl rfl rfl (line_ok z hzo ch un st en cp up sp hcp hup hsp hc0 hu0 (by omega) (by omega)) (fun p22 hp => ?_)
    obtain ⟨l, hli, _, rfl⟩ := hp
    refine Rs.alloc (z := .agg [_, _, _, _]) (c := 4) rfl rfl rfl (fun g9 => ?_)
    first | refine Rs.store0 (l' := [.agg [_, _, _, _]]) rfl rfl rfl (by first | rfl | exact storeB_ag rfl rfl rfl (by simp [scalars, sc_int, sc_str, sc_bool, sc_nil, sc_dsl, sc_own, sc_g, sc_f, *]) | exact storeB_fld rfl (by first | assumption | exact cl_g | exact cl_f) (by first | assumption | exact sc_g | exact sc_f) rfl) ?_ | refine Rs.store1 (l' := [.agg [_, _, _, _]]) rfl rfl rfl (by first | rfl | exact storeB_ag rfl rfl rfl (by simp [scalars, sc_int, sc_str, sc_bool, sc_nil, sc_dsl, sc_own, sc_g, sc_f, *]) | exact storeB_fld rfl (by first | assumption | exact cl_g | exact cl_f) (by first | assumption | exact sc_g | exact sc_f) rfl) ?_ | refine Rs.store2 (l' := [.agg [_, _, _, _]]) rfl rfl rfl (by first | rfl | exact storeB_ag rfl rfl rfl (by simp [scalars, sc_int, sc_str, sc_bool, sc_nil, sc_dsl, sc_own, sc_g, sc_f, *]) | exact storeB_fld rfl (by first | assumption | exact cl_g | exact cl_f) (by first | assumption | exact sc_g | exact sc_f) rfl) ?_ | refine Rs.store3 (l' := [.agg [_, _, _, _]]) rfl rfl rfl (by first | rfl | exact storeB_ag rfl rfl rfl (by simp [scalars, sc_int, sc_str, sc_bool, sc_nil, sc_dsl, sc_own, sc_g, sc_f, *]) | exact storeB_fld rfl (by first | assumption | exact cl_g | exact cl_f) (by first | assumption | exact sc_g | exact sc_f) rfl) ?_
    refine Rs.nil ?_
    refine Ps.thn ?_
    refine Ps.seq ?_
    have htb := tmod_bd l.amt
    refine Ps.region rfl ?_
    first | refine Rs.fieldAddrD (off' := 3) rfl rfl rfl rfl ?_ | refine Rs.fieldAddrP (off' := 3) rfl rfl rfl rfl ?_
    first | refine Rs.loadR rfl rfl rfl rfl ?_ | refine Rs.loadP 0 rfl rfl rfl rfl rfl ?_ | refine Rs.loadP 1 rfl rfl rfl rfl rfl ?_ | refine Rs.loadP 2 rfl rfl rfl rfl rfl ?_ | refine Rs.loadP 3 rfl rfl rfl rfl rfl ?_
    refine Rs.rem rfl rfl rfl (by omega) (by first | exact Int.tmod_eq_emod_of_nonneg (by omega) | rfl) ?_
    first | refine Rs.fieldAddrD (off' := 3) rfl rfl rfl rfl ?_ | refine Rs.fieldAddrP (off' := 3) rfl rfl rfl rfl ?_
    first | refine Rs.store0 (l' := [.agg [_, _, _, _]]) rfl rfl rfl (by first | rfl | exact storeB_ag rfl rfl rfl (by simp [scalars, sc_int, sc_str, sc_bool, sc_nil, sc_dsl, sc_own, sc_g, sc_f, *]) | exact storeB_fld rfl (by first | assumption | exact cl_g | exact cl_f) (by first | assumption | exact sc_g | exact sc_f) rfl) ?_ | refine Rs.store1 (l' := [.agg [_, _, _, _]]) rfl rfl rfl (by first | rfl | exact storeB_ag rfl rfl rfl (by simp [scalars, sc_int, sc_str, sc_bool, sc_nil, sc_dsl, sc_own, sc_g, sc_f, *]) | exact storeB_fld rfl (by first | assumption | exact cl_g | exact cl_f) (by first | assumption | exact sc_g | exact sc_f) rfl) ?_ | refine Rs.store2 (l' := [.agg [_, _, _, _]]) rfl rfl rfl (by first | rfl | exact storeB_ag rfl rfl rfl (by simp [scalars, sc_int, sc_str, sc_bool, sc_nil, sc_dsl, sc_own, sc_g, sc_f, *]) | exact storeB_fld rfl (by first | assumption | exact cl_g | exact cl_f) (by first | assumption | exact sc_g | exact sc_f) rfl) ?_ | refine Rs.store3 (l' := [.agg [_, _, _, _]]) rfl rfl rfl (by first | rfl | exact storeB_ag rfl rfl rfl (by simp [scalars, sc_int, sc_str, sc_bool, sc_nil, sc_dsl, sc_own, sc_g, sc_f, *]) | exact storeB_fld rfl (by first | assumption | exact cl_g | exact cl_f) (by first | assumption | exact sc_g | exact sc_f) rfl) ?_
    refine Rs.nil ?_
    refine Ps.thn ?_
    refine Ps.seq ?_
    refine Ps.seq ?_
    refine Ps.region rfl ?_
    first | refine Rs.fieldAddrD (off' := 3) rfl rfl rfl rfl ?_ | refine Rs.fieldAddrP (off' := 3) rfl rfl rfl rfl ?_
    first | refine Rs.loadR rfl rfl rfl rfl ?_ | refine Rs.loadP 0 rfl rfl rfl rfl rfl ?_ | refine Rs.loadP 1 rfl rfl rfl rfl rfl ?_ | refine Rs.loadP 2 rfl rfl rfl rfl rfl ?_ | refine Rs.loadP 3 rfl rfl rfl rfl rfl ?_
    refine Rs.binB rfl rfl rfl rfl rfl rfl ?_
    refine Rs.nil ?_
    refine Ps.thn ?_
    refine Ps.if rfl (fun hc => ?_) (fun hc => ?_)
    · try (first | replace hc := D1 hc | replace hc := D2 hc | replace hc := D3 hc | replace hc := D4 hc | replace hc := D5 hc | replace hc := D6 hc | replace hc := D7 hc | replace hc := D8 hc | replace hc := D9 hc | replace hc := D10 hc)
      refine Ps.region rfl ?_
      first | refine Rs.fieldAddrD (off' := 3) rfl rfl rfl rfl ?_ | refine Rs.fieldAddrP (off' := 3) rfl rfl rfl rfl ?_
      first | refine Rs.store0 (l' := [.agg [_, _, _, _]]) rfl rfl rfl (by first | rfl | exact storeB_ag rfl rfl rfl (by simp [scalars, sc_int, sc_str, sc_bool, sc_nil, sc_dsl, sc_own, sc_g, sc_f, *]) | exact storeB_fld rfl (by first | assumption | exact cl_g | exact cl_f) (by first | assumption | exact sc_g | exact sc_f) rfl) ?_ | refine Rs.store1 (l' := [.agg [_, _, _, _]]) rfl rfl rfl (by first | rfl | exact storeB_ag rfl rfl rfl (by simp [scalars, sc_int, sc_str, sc_bool, sc_nil, sc_dsl, sc_own, sc_g, sc_f, *]) | exact storeB_fld rfl (by first | assumption | exact cl_g | exact cl_f) (by first | assumption | exact sc_g | exact sc_f) rfl) ?_ | refine Rs.store2 (l' := [.agg [_, _, _, _]]) rfl rfl rfl (by first | rfl | exact storeB_ag rfl rfl rfl (by simp [scalars, sc_int, sc_str, sc_bool, sc_nil, sc_dsl, sc_own, sc_g, sc_f, *]) | exact storeB_fld rfl (by first | assumption | exact cl_g | exact cl_f) (by first | assumption | exact sc_g | exact sc_f) rfl) ?_ | refine Rs.store3 (l' := [.agg [_, _, _, _]]) rfl rfl rfl (by first | rfl | exact storeB_ag rfl rfl rfl (by simp [scalars, sc_int, sc_str, sc_bool, sc_nil, sc_dsl, sc_own, sc_g, sc_f, *]) | exact storeB_fld rfl (by first | assumption | exact cl_g | exact cl_f) (by first | assumption | exact sc_g | exact sc_f) rfl) ?_
      refine Rs.nil ?_
      refine Ps.thn ?_
      refine Ps.seq ?_
      refine Ps.region rfl ?_
      refine Rs.move rfl rfl ?_
      first | refine Rs.loadR (p := .agg [_, _, _, _]) rfl rfl rfl rfl ?_ | refine Rs.loadP (p := .agg [_, _, _, _]) 0 rfl rfl rfl rfl rfl ?_ | refine Rs.loadP (p := .agg [_, _, _, _]) 1 rfl rfl rfl rfl rfl ?_ | refine Rs.loadP (p := .agg [_, _, _, _]) 2 rfl rfl rfl rfl rfl ?_ | refine Rs.loadP (p := .agg [_, _, _, _]) 3 rfl rfl rfl rfl rfl ?_
      refine Rs.buildSlice (l := [_]) rfl rfl rfl rfl (by first | rfl | simp [deepL, deepB, *]) ?_
      first | refine Rs.append0 4 16 rfl rfl ⟨_, rfl⟩ rfl rfl rfl rfl rfl rfl rfl rfl rfl rfl (by assumption) rfl (by first | rfl | simp [scalarsE, scalars, PV.cells, sc_int, sc_str, sc_bool, sc_nil, sc_dsl, *]) (by simp; omega) (fun a34 ha34 => ?_) | refine Rs.append1 4 16 rfl rfl ⟨_, rfl⟩ rfl rfl rfl rfl rfl rfl rfl rfl rfl rfl (by assumption) rfl (by first | rfl | simp [scalarsE, scalars, PV.cells, sc_int, sc_str, sc_bool, sc_nil, sc_dsl, *]) (by simp; omega) (fun a34 ha34 => ?_) | refine Rs.append2 4 16 rfl rfl ⟨_, rfl⟩ rfl rfl rfl rfl rfl rfl rfl rfl rfl rfl (by assumption) rfl (by first | rfl | simp [scalarsE, scalars, PV.cells, sc_int, sc_str, sc_bool, sc_nil, sc_dsl, *]) (by simp; omega) (fun a34 ha34 => ?_) | refine Rs.append3 4 16 rfl rfl ⟨_, rfl⟩ rfl rfl rfl rfl rfl rfl rfl rfl rfl rfl (by assumption) rfl (by first | rfl | simp [scalarsE, scalars, PV.cells, sc_int, sc_str, sc_bool, sc_nil, sc_dsl, *]) (by simp; omega) (fun a34 ha34 => ?_)
      refine Rs.assign rfl rfl ?_
      refine Rs.nil ?_
      refine Ps.thn ?_
      refine Ps.region rfl ?_
      refine Rs.move rfl rfl ?_
      first | refine Rs.fieldAddrD (off' := 1) rfl rfl rfl rfl ?_ | refine Rs.fieldAddrP (off' := 1) rfl rfl rfl rfl ?_
      first | refine Rs.loadR rfl rfl rfl rfl ?_ | refine Rs.loadP 0 rfl rfl rfl rfl rfl ?_ | refine Rs.loadP 1 rfl rfl rfl rfl rfl ?_ | refine Rs.loadP 2 rfl rfl rfl rfl rfl ?_ | refine Rs.loadP 3 rfl rfl rfl rfl rfl ?_
      first | refine Rs.lookup (z := .lit _) 0 rfl rfl rfl rfl rfl rfl rfl ?_ | refine Rs.lookup (z := .lit _) 1 rfl rfl rfl rfl rfl rfl rfl ?_ | refine Rs.lookup (z := .lit _) 2 rfl rfl rfl rfl rfl rfl rfl ?_ | refine Rs.lookup (z := .lit _) 3 rfl rfl rfl rfl rfl rfl rfl ?_
      rw [hS]
      have hb := sm_bd out l.ent ham
      first | refine Rs.fieldAddrD (off' := 3) rfl rfl rfl rfl ?_ | refine Rs.fieldAddrP (off' := 3) rfl rfl rfl rfl ?_
      first | refine Rs.loadR rfl rfl rfl rfl ?_ | refine Rs.loadP 0 rfl rfl rfl rfl rfl ?_ | refine Rs.loadP 1 rfl rfl rfl rfl rfl ?_ | refine Rs.loadP 2 rfl rfl rfl rfl rfl ?_ | refine Rs.loadP 3 rfl rfl rfl rfl rfl ?_
      refine Rs.add rfl rfl rfl (by first | exact W_i64s (by omega) | exact W_i64 (by omega) (by omega) | rfl) ?_
      first | refine Rs.mapUpdate 0 rfl rfl rfl rfl rfl rfl (fun ms7 cl7 hU7 => ?_) | refine Rs.mapUpdate 1 rfl rfl rfl rfl rfl rfl (fun ms7 cl7 hU7 => ?_) | refine Rs.mapUpdate 2 rfl rfl rfl rfl rfl rfl (fun ms7 cl7 hU7 => ?_) | refine Rs.mapUpdate 3 rfl rfl rfl rfl rfl rfl (fun ms7 cl7 hU7 => ?_)
      refine Rs.nil ?_
      refine Ps.blk ?_
      refine Ps.thn ?_
      refine Ps.region rfl ?_
      refine Rs.add rfl rfl rfl (by first | exact W_i64s (by omega) | exact W_i64 (by omega) (by omega) | rfl) ?_
      refine Rs.move rfl rfl ?_
      refine Rs.nil ?_
      -- leaf 1 (round1)
      have key : ∀ w, (∀ q, mget ms7 q = if q = l.ent then some (i64P (sm out l.ent + w)) else mget ms q) → ∀ q, (mget ms7 q).getD (i64P 0) = i64P (sm (out ++ [(⟨l.acc, l.ent, l.ctr, w⟩ : Ln)]) q) := by
        intro w hw q
        rw [hw q, sm_app]
        by_cases hq : q = l.ent
        · rw [if_pos hq, hq]; simp [sm]
        · rw [if_neg hq, hS q]; simp [sm, Ne.symm hq]
      have fin : ∀ w, AmtOk (⟨l.acc, l.ent, l.ctr, w⟩ : Ln) → (∀ x ∈ out ++ [(⟨l.acc, l.ent, l.ctr, w⟩ : Ln)], LnIn ch un x) ∧ ∀ x ∈ out ++ [(⟨l.acc, l.ent, l.ctr, w⟩ : Ln)], AmtOk x := by
        intro w hw
        constructor <;> intro x hx <;> rcases List.mem_append.1 hx with hx | hx
        · exact hin x hx
        · rw [List.mem_singleton.1 hx]; exact ⟨hli.acc, hli.ent, hli.ctr⟩
        · exact ham x hx
        · rw [List.mem_singleton.1 hx]; exact hw
      first
        | (rw [show List.map lnP out ++ [PV.agg [u32P l.acc, u16P l.ent, u16P l.ctr, PV.lit (Value.int IntKind.i64 1)]] = List.map lnP (out ++ [(⟨l.acc, l.ent, l.ctr, 1⟩ : Ln)]) by rw [List.map_append]; rfl] at ha34 ⊢
           obtain ⟨f1, f2⟩ := fin 1 ⟨show (1 : Int) ≠ 0 by decide, show (-288230376151711744 : Int) < 1 by decide, show (1 : Int) < 288230376151711744 by decide⟩
           exact Ps.round (j + 1, out ++ [⟨l.acc, l.ent, l.ctr, 1⟩], a34, ms7, cl7) ⟨hlt, by simp [hol], f1, f2, key 1 hU7.get, ha34⟩ (by show y.lines.length - (j + 1) < y.lines.length - j; omega) ⟨rfl, rfl, trivial⟩ (by repeat' first | exact HasL.nil | refine HasL.cons rfl ?_) (by repeat' first | exact List.Sublist.refl _ | exact List.nil_sublist _ | exact List.sublist_append_left _ _ | refine List.Sublist.cons₂ _ ?_ | refine List.Sublist.cons _ ?_))
        | (rw [show List.map lnP out ++ [PV.agg [u32P l.acc, u16P l.ent, u16P l.ctr, PV.lit (Value.int IntKind.i64 (l.amt.tmod 288230376151711744))]] = List.map lnP (out ++ [(⟨l.acc, l.ent, l.ctr, l.amt.tmod 288230376151711744⟩ : Ln)]) by rw [List.map_append]; rfl] at ha34 ⊢
           obtain ⟨f1, f2⟩ := fin (l.amt.tmod 288230376151711744) ⟨hc, htb.1, htb.2⟩
           exact Ps.round (j + 1, out ++ [⟨l.acc, l.ent, l.ctr, l.amt.tmod 288230376151711744⟩], a34, ms7, cl7) ⟨hlt, by simp [hol], f1, f2, key _ hU7.get, ha34⟩ (by show y.lines.length - (j + 1) < y.lines.length - j; omega) ⟨rfl, rfl, trivial⟩ (by repeat' first | exact HasL.nil | refine HasL.cons rfl ?_) (by repeat' first | exact List.Sublist.refl _ | exact List.nil_sublist _ | exact List.sublist_append_left _ _ | refine List.Sublist.cons₂ _ ?_ | refine List.Sublist.cons _ ?_))
    · try (first | replace hc := D1 hc | replace hc := D2 hc | replace hc := D3 hc | replace hc := D4 hc | replace hc := D5 hc | replace hc := D6 hc | replace hc := D7 hc | replace hc := D8 hc | replace hc := D9 hc | replace hc := D10 hc)
      refine Ps.skip ?_
      refine Ps.thn ?_
      refine Ps.seq ?_
      refine Ps.region rfl ?_
      refine Rs.move rfl rfl ?_
      first | refine Rs.loadR (p := .agg [_, _, _, _]) rfl rfl rfl rfl ?_ | refine Rs.loadP (p := .agg [_, _, _, _]) 0 rfl rfl rfl rfl rfl ?_ | refine Rs.loadP (p := .agg [_, _, _, _]) 1 rfl rfl rfl rfl rfl ?_ | refine Rs.loadP (p := .agg [_, _, _, _]) 2 rfl rfl rfl rfl rfl ?_ | refine Rs.loadP (p := .agg [_, _, _, _]) 3 rfl rfl rfl rfl rfl ?_
      refine Rs.buildSlice (l := [_]) rfl rfl rfl rfl (by first | rfl | simp [deepL, deepB, *]) ?_
      first | refine Rs.append0 4 16 rfl rfl ⟨_, rfl⟩ rfl rfl rfl rfl rfl rfl rfl rfl rfl rfl (by assumption) rfl (by first | rfl | simp [scalarsE, scalars, PV.cells, sc_int, sc_str, sc_bool, sc_nil, sc_dsl, *]) (by simp; omega) (fun a34 ha34 => ?_) | refine Rs.append1 4 16 rfl rfl ⟨_, rfl⟩ rfl rfl rfl rfl rfl rfl rfl rfl rfl rfl (by assumption) rfl (by first | rfl | simp [scalarsE, scalars, PV.cells, sc_int, sc_str, sc_bool, sc_nil, sc_dsl, *]) (by simp; omega) (fun a34 ha34 => ?_) | refine Rs.append2 4 16 rfl rfl ⟨_, rfl⟩ rfl rfl rfl rfl rfl rfl rfl rfl rfl rfl (by assumption) rfl (by first | rfl | simp [scalarsE, scalars, PV.cells, sc_int, sc_str, sc_bool, sc_nil, sc_dsl, *]) (by simp; omega) (fun a34 ha34 => ?_) | refine Rs.append3 4 16 rfl rfl ⟨_, rfl⟩ rfl rfl rfl rfl rfl rfl rfl rfl rfl rfl (by assumption) rfl (by first | rfl | simp [scalarsE, scalars, PV.cells, sc_int, sc_str, sc_bool, sc_nil, sc_dsl, *]) (by simp; omega) (fun a34 ha34 => ?_)
      refine Rs.assign rfl rfl ?_
      refine Rs.nil ?_
      refine Ps.thn ?_
      refine Ps.region rfl ?_
      refine Rs.move rfl rfl ?_
      first | refine Rs.fieldAddrD (off' := 1) rfl rfl rfl rfl ?_ | refine Rs.fieldAddrP (off' := 1) rfl rfl rfl rfl ?_
      first | refine Rs.loadR rfl rfl rfl rfl ?_ | refine Rs.loadP 0 rfl rfl rfl rfl rfl ?_ | refine Rs.loadP 1 rfl rfl rfl rfl rfl ?_ | refine Rs.loadP 2 rfl rfl rfl rfl rfl ?_ | refine Rs.loadP 3 rfl rfl rfl rfl rfl ?_
      first | refine Rs.lookup (z := .lit _) 0 rfl rfl rfl rfl rfl rfl rfl ?_ | refine Rs.lookup (z := .lit _) 1 rfl rfl rfl rfl rfl rfl rfl ?_ | refine Rs.lookup (z := .lit _) 2 rfl rfl rfl rfl rfl rfl rfl ?_ | refine Rs.lookup (z := .lit _) 3 rfl rfl rfl rfl rfl rfl rfl ?_
      rw [hS]
      have hb := sm_bd out l.ent ham
      first | refine Rs.fieldAddrD (off' := 3) rfl rfl rfl rfl ?_ | refine Rs.fieldAddrP (off' := 3) rfl rfl rfl rfl ?_
      first | refine Rs.loadR rfl rfl rfl rfl ?_ | refine Rs.loadP 0 rfl rfl rfl rfl rfl ?_ | refine Rs.loadP 1 rfl rfl rfl rfl rfl ?_ | refine Rs.loadP 2 rfl rfl rfl rfl rfl ?_ | refine Rs.loadP 3 rfl rfl rfl rfl rfl ?_
      refine Rs.add rfl rfl rfl (by first | exact W_i64s (by omega) | exact W_i64 (by omega) (by omega) | rfl) ?_
      first | refine Rs.mapUpdate 0 rfl rfl rfl rfl rfl rfl (fun ms7 cl7 hU7 => ?_) | refine Rs.mapUpdate 1 rfl rfl rfl rfl rfl rfl (fun ms7 cl7 hU7 => ?_) | refine Rs.mapUpdate 2 rfl rfl rfl rfl rfl rfl (fun ms7 cl7 hU7 => ?_) | refine Rs.mapUpdate 3 rfl rfl rfl rfl rfl rfl (fun ms7 cl7 hU7 => ?_)
      refine Rs.nil ?_
      refine Ps.blk ?_
      refine Ps.thn ?_
      refine Ps.region rfl ?_
      refine Rs.add rfl rfl rfl (by first | exact W_i64s (by omega) | exact W_i64 (by omega) (by omega) | rfl) ?_
      refine Rs.move rfl rfl ?_
      refine Rs.nil ?_
      -- leaf 2 (round1)
      have key : ∀ w, (∀ q, mget ms7 q = if q = l.ent then some (i64P (sm out l.ent + w)) else mget ms q) → ∀ q, (mget ms7 q).getD (i64P 0) = i64P (sm (out ++ [(⟨l.acc, l.ent, l.ctr, w⟩ : Ln)]) q) := by
        intro w hw q
        rw [hw q, sm_app]
        by_cases hq : q = l.ent
        · rw [if_pos hq, hq]; simp [sm]
        · rw [if_neg hq, hS q]; simp [sm, Ne.symm hq]
      have fin : ∀ w, AmtOk (⟨l.acc, l.ent, l.ctr, w⟩ : Ln) → (∀ x ∈ out ++ [(⟨l.acc, l.ent, l.ctr, w⟩ : Ln)], LnIn ch un x) ∧ ∀ x ∈ out ++ [(⟨l.acc, l.ent, l.ctr, w⟩ : Ln)], AmtOk x := by
        intro w hw
        constructor <;> intro x hx <;> rcases List.mem_append.1 hx with hx | hx
        · exact hin x hx
        · rw [List.mem_singleton.1 hx]; exact ⟨hli.acc, hli.ent, hli.ctr⟩
        · exact ham x hx
        · rw [List.mem_singleton.1 hx]; exact hw
      first
        | (rw [show List.map lnP out ++ [PV.agg [u32P l.acc, u16P l.ent, u16P l.ctr, PV.lit (Value.int IntKind.i64 1)]] = List.map lnP (out ++ [(⟨l.acc, l.ent, l.ctr, 1⟩ : Ln)]) by rw [List.map_append]; rfl] at ha34 ⊢
           obtain ⟨f1, f2⟩ := fin 1 ⟨show (1 : Int) ≠ 0 by decide, show (-288230376151711744 : Int) < 1 by decide, show (1 : Int) < 288230376151711744 by decide⟩
           exact Ps.round (j + 1, out ++ [⟨l.acc, l.ent, l.ctr, 1⟩], a34, ms7, cl7) ⟨hlt, by simp [hol], f1, f2, key 1 hU7.get, ha34⟩ (by show y.lines.length - (j + 1) < y.lines.length - j; omega) ⟨rfl, rfl, trivial⟩ (by repeat' first | exact HasL.nil | refine HasL.cons rfl ?_) (by repeat' first | exact List.Sublist.refl _ | exact List.nil_sublist _ | exact List.sublist_append_left _ _ | refine List.Sublist.cons₂ _ ?_ | refine List.Sublist.cons _ ?_))
        | (rw [show List.map lnP out ++ [PV.agg [u32P l.acc, u16P l.ent, u16P l.ctr, PV.lit (Value.int IntKind.i64 (l.amt.tmod 288230376151711744))]] = List.map lnP (out ++ [(⟨l.acc, l.ent, l.ctr, l.amt.tmod 288230376151711744⟩ : Ln)]) by rw [List.map_append]; rfl] at ha34 ⊢
           obtain ⟨f1, f2⟩ := fin (l.amt.tmod 288230376151711744) ⟨hc, htb.1, htb.2⟩
           exact Ps.round (j + 1, out ++ [⟨l.acc, l.ent, l.ctr, l.amt.tmod 288230376151711744⟩], a34, ms7, cl7) ⟨hlt, by simp [hol], f1, f2, key _ hU7.get, ha34⟩ (by show y.lines.length - (j + 1) < y.lines.length - j; omega) ⟨rfl, rfl, trivial⟩ (by repeat' first | exact HasL.nil | refine HasL.cons rfl ?_) (by repeat' first | exact List.Sublist.refl _ | exact List.nil_sublist _ | exact List.sublist_append_left _ _ | refine List.Sublist.cons₂ _ ?_ | refine List.Sublist.cons _ ?_))
  · try (first | replace hc := D1 hc | replace hc := D2 hc | replace hc := D3 hc | replace hc := D4 hc | replace hc := D5 hc | replace hc := D6 hc | replace hc := D7 hc | replace hc := D8 hc | replace hc := D9 hc | replace hc := D10 hc)
    refine Ps.exit ?_
    refine Ps.thn_exit ?_
    refine Ps.rnd_exit ?_
    refine Ps.blk_here ?_
    refine Ps.thn ?_
    refine Ps.seq ?_
    refine Ps.seq ?_
    refine Ps.region rfl ?_
    first | refine Rs.fieldAddrD (off' := 1) rfl rfl rfl rfl ?_ | refine Rs.fieldAddrP (off' := 1) rfl rfl rfl rfl ?_
    refine Rs.loadD rfl rfl rfl rfl ?_
    first | refine Rs.lenD rfl rfl rfl rfl ?_ | refine Rs.lenO rfl rfl rfl rfl ?_ | refine Rs.lenI rfl rfl rfl rfl ?_ | refine Rs.lenA rfl rfl rfl rfl (by assumption) ?_ | refine Rs.lenS rfl rfl rfl rfl (by assumption) ?_
    refine Rs.move (p := .lit _) rfl rfl ?_
    refine Rs.nil ?_
    refine Ps.thn ?_
    refine Ps.block ?_
    -- loop 2 writes [5, 10, 11, 46, 47, 48, 49, 50, 51, 52, 53, 54, 55, 56, 57, 58, 59, 60, 61, 62, 63, 64, 65, 66, 67, 68, 69, 70, 71, 72, 73, 74]
    have hbs := fun q => sm_bd out q ham
    refine Ps.loop (J := Nat × List Ln × Option (Nat × Nat)) ⟨fun i => i.1 ≤ un.length ∧ i.2.1.length ≤ out.length + i.1 ∧ (∀ l ∈ i.2.1, LnIn ch un l) ∧ (∀ l ∈ i.2.1, l.amt ≠ 0 ∧ -2305843009213693952 ≤ l.amt ∧ l.amt ≤ 2305843009213693952) ∧ (∀ q, sm i.2.1 q = if q ∈ un.take i.1 then 0 else sm out q) ∧ (i.2.2 = none ↔ i.2.1.map lnP = []), fun i => [(5, gP 4 i.2.2 (i.2.1.map lnP)), (46, i64P i.1)], fun i => (g12, 0, mapO .u16 ms clk) :: (gM 4 i.2.2 (i.2.1.map lnP) ++ []), fun i => un.length - i.1⟩ [5, 10, 11, 46, 47, 48, 49, 50, 51, 52, 53, 54, 55, 56, 57, 58, 59, 60, 61, 62, 63, 64, 65, 66, 67, 68, 69, 70, 71, 72, 73, 74] [(45, _), (44, _), (43, _), (17, _), (16, _), (15, _), (14, _), (13, _), (6, _), (12, _), (4, _), (3, _), (2, _), (0, _), (1, _)] (0, out, a) rfl ⟨Nat.zero_le _, Nat.le_refl _, hin, fun l h => by have := ham l h; unfold AmtOk at this; omega, fun q => by simp, ha⟩ ⟨rfl, rfl, trivial⟩ (List.Sublist.refl _) (fun i hi => ?_)
    obtain ⟨i, out2, b⟩ := i
    obtain ⟨hi, hol2, hin2, ham2, hS2, hb2⟩ : i ≤ un.length ∧ out2.length ≤ out.length + i ∧ (∀ l ∈ out2, LnIn ch un l) ∧ (∀ l ∈ out2, l.amt ≠ 0 ∧ -2305843009213693952 ≤ l.amt ∧ l.amt ≤ 2305843009213693952) ∧ (∀ q, sm out2 q = if q ∈ un.take i then 0 else sm out q) ∧ (b = none ↔ out2.map lnP = []) := hi
    dsimp only [List.cons_append, List.nil_append]
    refine Ps.seq ?_
    refine Ps.region rfl ?_
    refine Rs.binB rfl rfl rfl rfl rfl rfl ?_
    refine Rs.nil ?_
    refine Ps.thn ?_
    refine Ps.seq ?_
    refine Ps.if rfl (fun hc => ?_) (fun hc => ?_)
    · try (first | replace hc := D1 hc | replace hc := D2 hc | replace hc := D3 hc | replace hc := D4 hc | replace hc := D5 hc | replace hc := D6 hc | replace hc := D7 hc | replace hc := D8 hc | replace hc := D9 hc | replace hc := D10 hc)
      refine Ps.skip ?_
      refine Ps.thn ?_
      refine Ps.seq ?_
      refine Ps.block ?_
      refine Ps.seq ?_
      have hlti : i < un.length := by simp at hc; omega
      obtain ⟨n, hn⟩ := at_lt hlti
      have hbn := hbs n
      have htake : un.take (i + 1) = un.take i ++ [n] := by rw [List.take_add_one, hn]; rfl
      have hnot : n ∉ un.take i := by
        intro hm
        have hnd := hU.si.nodup
        rw [← List.take_append_drop i un, drop_at hn] at hnd
        exact (List.nodup_append.1 hnd).2.2 n hm n (by simp) rfl
      refine Ps.region rfl ?_
      refine Rs.move rfl rfl ?_
      first | refine Rs.indexD (lc := [_]) rfl rfl rfl rfl rfl rfl (map_at hn) rfl ?_ | refine Rs.indexS (lc := [_]) rfl rfl rfl rfl rfl (by assumption) rfl (map_at hn) rfl ?_
      first | refine Rs.loadR rfl rfl rfl rfl ?_ | refine Rs.loadP 0 rfl rfl rfl rfl rfl ?_ | refine Rs.loadP 1 rfl rfl rfl rfl rfl ?_ | refine Rs.loadP 2 rfl rfl rfl rfl rfl ?_ | refine Rs.loadP 3 rfl rfl rfl rfl rfl ?_
      refine Rs.assign rfl rfl ?_
      refine Rs.assign rfl rfl ?_
      refine Rs.nil ?_
      refine Ps.thn ?_
      refine Ps.seq ?_
      refine Ps.region rfl ?_
      refine Rs.move rfl rfl ?_
      refine Rs.move rfl rfl ?_
      first | refine Rs.lookup (z := .lit _) 0 rfl rfl rfl rfl rfl rfl rfl ?_ | refine Rs.lookup (z := .lit _) 1 rfl rfl rfl rfl rfl rfl rfl ?_ | refine Rs.lookup (z := .lit _) 2 rfl rfl rfl rfl rfl rfl rfl ?_ | refine Rs.lookup (z := .lit _) 3 rfl rfl rfl rfl rfl rfl rfl ?_
      rw [hS]
      refine Rs.binB rfl rfl rfl rfl rfl rfl ?_
      refine Rs.nil ?_
      refine Ps.thn ?_
      refine Ps.if rfl (fun hc => ?_) (fun hc => ?_)
      · try (first | replace hc := D1 hc | replace hc := D2 hc | replace hc := D3 hc | replace hc := D4 hc | replace hc := D5 hc | replace hc := D6 hc | replace hc := D7 hc | replace hc := D8 hc | replace hc := D9 hc | replace hc := D10 hc)
        obtain ⟨r, hr, w, hw⟩ := pick_at ch hc0 (i : Int) (by omega)
        refine Ps.region rfl ?_
        refine Rs.move rfl rfl ?_
        first | refine Rs.fieldAddrD (off' := 0) rfl rfl rfl rfl ?_ | refine Rs.fieldAddrP (off' := 0) rfl rfl rfl rfl ?_
        refine Rs.loadD rfl rfl rfl rfl ?_
        refine Rs.move rfl rfl ?_
        first | refine Rs.fieldAddrD (off' := 0) rfl rfl rfl rfl ?_ | refine Rs.fieldAddrP (off' := 0) rfl rfl rfl rfl ?_
        refine Rs.loadD rfl rfl rfl rfl ?_
        first | refine Rs.lenD rfl rfl rfl rfl ?_ | refine Rs.lenO rfl rfl rfl rfl ?_ | refine Rs.lenI rfl rfl rfl rfl ?_ | refine Rs.lenA rfl rfl rfl rfl (by assumption) ?_ | refine Rs.lenS rfl rfl rfl rfl (by assumption) ?_
        refine Rs.rem rfl rfl rfl (by omega) (by first | exact Int.tmod_eq_emod_of_nonneg (by omega) | rfl) ?_
        first | refine Rs.indexD (lc := [_, _, _, _]) rfl rfl rfl rfl rfl (by rw [hcm]; exact hr) (map_at hw) rfl ?_ | refine Rs.indexS (lc := [_, _, _, _]) rfl rfl rfl rfl rfl (by assumption) (by rw [hcm]; exact hr) (map_at hw) rfl ?_
        first | refine Rs.fieldAddrD (off' := 0) rfl rfl rfl rfl ?_ | refine Rs.fieldAddrP (off' := 0) rfl rfl rfl rfl ?_
        first | refine Rs.loadR rfl rfl rfl rfl ?_ | refine Rs.loadP 0 rfl rfl rfl rfl rfl ?_ | refine Rs.loadP 1 rfl rfl rfl rfl rfl ?_ | refine Rs.loadP 2 rfl rfl rfl rfl rfl ?_ | refine Rs.loadP 3 rfl rfl rfl rfl rfl ?_
        refine Rs.move rfl rfl ?_
        refine Rs.move rfl rfl ?_
        refine Rs.move rfl rfl ?_
        first | refine Rs.lookup (z := .lit _) 0 rfl rfl rfl rfl rfl rfl rfl ?_ | refine Rs.lookup (z := .lit _) 1 rfl rfl rfl rfl rfl rfl rfl ?_ | refine Rs.lookup (z := .lit _) 2 rfl rfl rfl rfl rfl rfl rfl ?_ | refine Rs.lookup (z := .lit _) 3 rfl rfl rfl rfl rfl rfl rfl ?_
        rw [hS]
        refine Rs.neg rfl rfl (by first | exact W_i64 (by omega) (by omega) | rfl) ?_
        refine Rs.buildB (cs := [(0, [_]), (1, [_]), (3, [_])]) (l := [_, _, _, _]) rfl rfl (by first | rfl | simp only [cellsOf]; rfl) rfl ?_
        refine Rs.buildSlice (l := [_]) rfl rfl rfl rfl (by first | rfl | simp [deepL, deepB, *]) ?_
        first | refine Rs.append0 4 16 rfl rfl ⟨_, rfl⟩ rfl rfl rfl rfl rfl rfl rfl rfl rfl rfl (by assumption) rfl (by first | rfl | simp [scalarsE, scalars, PV.cells, sc_int, sc_str, sc_bool, sc_nil, sc_dsl, *]) (by have := hU.len; simp; omega) (fun a73 ha73 => ?_) | refine Rs.append1 4 16 rfl rfl ⟨_, rfl⟩ rfl rfl rfl rfl rfl rfl rfl rfl rfl rfl (by assumption) rfl (by first | rfl | simp [scalarsE, scalars, PV.cells, sc_int, sc_str, sc_bool, sc_nil, sc_dsl, *]) (by have := hU.len; simp; omega) (fun a73 ha73 => ?_) | refine Rs.append2 4 16 rfl rfl ⟨_, rfl⟩ rfl rfl rfl rfl rfl rfl rfl rfl rfl rfl (by assumption) rfl (by first | rfl | simp [scalarsE, scalars, PV.cells, sc_int, sc_str, sc_bool, sc_nil, sc_dsl, *]) (by have := hU.len; simp; omega) (fun a73 ha73 => ?_) | refine Rs.append3 4 16 rfl rfl ⟨_, rfl⟩ rfl rfl rfl rfl rfl rfl rfl rfl rfl rfl (by assumption) rfl (by first | rfl | simp [scalarsE, scalars, PV.cells, sc_int, sc_str, sc_bool, sc_nil, sc_dsl, *]) (by have := hU.len; simp; omega) (fun a73 ha73 => ?_)
        refine Rs.assign rfl rfl ?_
        refine Rs.nil ?_
        refine Ps.blk ?_
        refine Ps.thn ?_
        refine Ps.region rfl ?_
        refine Rs.add rfl rfl rfl (by first | exact W_i64s (by omega) | exact W_i64 (by omega) (by omega) | rfl) ?_
        refine Rs.move rfl rfl ?_
        refine Rs.nil ?_
        -- leaf 3 (round2)
        have hulen := hU.len
        first
          | (rw [show List.map lnP out2 ++ [PV.agg [u32P w.code, u16P n, PV.lit (Value.int IntKind.u16 0), PV.lit (Value.int IntKind.i64 (0 - sm out n))]] = List.map lnP (out2 ++ [(⟨w.code, n, 0, 0 - sm out n⟩ : Ln)]) by rw [List.map_append]; rfl] at ha73 ⊢
             refine Ps.round (i + 1, out2 ++ [⟨w.code, n, 0, 0 - sm out n⟩], a73) ⟨hlti, by simp; omega, ?_, ?_, fun q => ?_, ha73⟩ (by show un.length - (i + 1) < un.length - i; omega) ⟨rfl, rfl, trivial⟩ (by repeat' first | exact HasL.nil | refine HasL.cons rfl ?_) (by repeat' first | exact List.Sublist.refl _ | exact List.nil_sublist _ | exact List.sublist_append_left _ _ | refine List.Sublist.cons₂ _ ?_ | refine List.Sublist.cons _ ?_)
             · intro x hx
               rcases List.mem_append.1 hx with hx | hx
               · exact hin2 x hx
               · rw [List.mem_singleton.1 hx]; exact ⟨⟨w, List.mem_of_getElem? hw, rfl⟩, List.mem_of_getElem? hn, .inl rfl⟩
             · intro x hx
               rcases List.mem_append.1 hx with hx | hx
               · exact ham2 x hx
               · rw [List.mem_singleton.1 hx]; show 0 - sm out n ≠ 0 ∧ _ ≤ 0 - sm out n ∧ 0 - sm out n ≤ _; omega
             · show sm (out2 ++ [_]) q = if q ∈ un.take (i + 1) then 0 else sm out q
               rw [sm_app, hS2 q, htake]
               by_cases hq : q = n
               · rw [hq, if_neg hnot, if_pos (by simp)]; simp only [sm, if_true]; omega
               · simp [sm, hq, Ne.symm hq])
          | (refine Ps.round (i + 1, out2, b) ⟨hlti, by show out2.length ≤ _ + (i + 1); omega, hin2, ham2, fun q => ?_, hb2⟩ (by show un.length - (i + 1) < un.length - i; omega) ⟨rfl, rfl, trivial⟩ (by repeat' first | exact HasL.nil | refine HasL.cons rfl ?_) (by repeat' first | exact List.Sublist.refl _ | exact List.nil_sublist _ | exact List.sublist_append_left _ _ | refine List.Sublist.cons₂ _ ?_ | refine List.Sublist.cons _ ?_)
             show sm out2 q = if q ∈ un.take (i + 1) then 0 else sm out q
             rw [hS2 q, htake]
             by_cases hq : q = n
             · rw [hq, if_neg hnot, if_pos (by simp)]; omega
             · simp [hq])
      · try (first | replace hc := D1 hc | replace hc := D2 hc | replace hc := D3 hc | replace hc := D4 hc | replace hc := D5 hc | replace hc := D6 hc | replace hc := D7 hc | replace hc := D8 hc | replace hc := D9 hc | replace hc := D10 hc)
        refine Ps.skip ?_
        refine Ps.blk ?_
        refine Ps.thn ?_
        refine Ps.region rfl ?_
        refine Rs.add rfl rfl rfl (by first | exact W_i64s (by omega) | exact W_i64 (by omega) (by omega) | rfl) ?_
        refine Rs.move rfl rfl ?_
        refine Rs.nil ?_
        -- leaf 4 (round2)
        have hulen := hU.len
        first
          | (rw [show List.map lnP out2 ++ [PV.agg [u32P w.code, u16P n, PV.lit (Value.int IntKind.u16 0), PV.lit (Value.int IntKind.i64 (0 - sm out n))]] = List.map lnP (out2 ++ [(⟨w.code, n, 0, 0 - sm out n⟩ : Ln)]) by rw [List.map_append]; rfl] at ha73 ⊢
             refine Ps.round (i + 1, out2 ++ [⟨w.code, n, 0, 0 - sm out n⟩], a73) ⟨hlti, by simp; omega, ?_, ?_, fun q => ?_, ha73⟩ (by show un.length - (i + 1) < un.length - i; omega) ⟨rfl, rfl, trivial⟩ (by repeat' first | exact HasL.nil | refine HasL.cons rfl ?_) (by repeat' first | exact List.Sublist.refl _ | exact List.nil_sublist _ | exact List.sublist_append_left _ _ | refine List.Sublist.cons₂ _ ?_ | refine List.Sublist.cons _ ?_)
             · intro x hx
               rcases List.mem_append.1 hx with hx | hx
               · exact hin2 x hx
               · rw [List.mem_singleton.1 hx]; exact ⟨⟨w, List.mem_of_getElem? hw, rfl⟩, List.mem_of_getElem? hn, .inl rfl⟩
             · intro x hx
               rcases List.mem_append.1 hx with hx | hx
               · exact ham2 x hx
               · rw [List.mem_singleton.1 hx]; show 0 - sm out n ≠ 0 ∧ _ ≤ 0 - sm out n ∧ 0 - sm out n ≤ _; omega
             · show sm (out2 ++ [_]) q = if q ∈ un.take (i + 1) then 0 else sm out q
               rw [sm_app, hS2 q, htake]
               by_cases hq : q = n
               · rw [hq, if_neg hnot, if_pos (by simp)]; simp only [sm, if_true]; omega
               · simp [sm, hq, Ne.symm hq])
          | (refine Ps.round (i + 1, out2, b) ⟨hlti, by show out2.length ≤ _ + (i + 1); omega, hin2, ham2, fun q => ?_, hb2⟩ (by show un.length - (i + 1) < un.length - i; omega) ⟨rfl, rfl, trivial⟩ (by repeat' first | exact HasL.nil | refine HasL.cons rfl ?_) (by repeat' first | exact List.Sublist.refl _ | exact List.nil_sublist _ | exact List.sublist_append_left _ _ | refine List.Sublist.cons₂ _ ?_ | refine List.Sublist.cons _ ?_)
             show sm out2 q = if q ∈ un.take (i + 1) then 0 else sm out q
             rw [hS2 q, htake]
             by_cases hq : q = n
             · rw [hq, if_neg hnot, if_pos (by simp)]; omega
             · simp [hq])
    · try (first | replace hc := D1 hc | replace hc := D2 hc | replace hc := D3 hc | replace hc := D4 hc | replace hc := D5 hc | replace hc := D6 hc | replace hc := D7 hc | replace hc := D8 hc | replace hc := D9 hc | replace hc := D10 hc)
      refine Ps.exit ?_
      refine Ps.thn_exit ?_
      refine Ps.rnd_exit ?_
      refine Ps.blk_here ?_
      refine Ps.thn ?_
      refine Ps.seq ?_
      refine Ps.region rfl ?_
      refine Rs.move rfl rfl ?_
      refine Rs.assign rfl rfl ?_
      refine Rs.nil ?_
      refine Ps.thn ?_
      refine Ps.ret ?_
      -- leaf 5 (ret)
      have hulen := hU.len
      refine Ps.finG (a := b) rfl (.tmp rfl .nil) hb2 (by repeat' first | exact List.Sublist.refl _ | exact List.nil_sublist _ | exact List.sublist_append_left _ _ | refine List.Sublist.cons₂ _ ?_ | refine List.Sublist.cons _ ?_) (by intro q hq; obtain ⟨z, _, rfl⟩ := List.mem_map.1 hq; rfl) (by simp; omega) ⟨out2, ⟨hin2, ham2, fun q => ?_, by omega⟩, rfl⟩
      rw [hS2 q, List.take_of_length_le (by simp at hc; omega)]
      split
      · rfl
      · rename_i h
        exact sm_none out q fun x hx e => h (e ▸ (hin x hx).ent)
end Go.Proofs.YtddaogebacigbaaGreatDoor.RV.T
