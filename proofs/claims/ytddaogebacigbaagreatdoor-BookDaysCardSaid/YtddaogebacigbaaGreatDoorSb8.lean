/- A part of the symbolic runs of functions by the evaluator (TB8). Conditions: none. -/
import Derived.Test.YtddaogebacigbaaGreatDoorSb7
import Derived.Test.YtddaogebacigbaaGreatDoorSb6
import Derived.Test.YtddaogebacigbaaGreatDoorSb5
import Derived.Test.YtddaogebacigbaaGreatDoorSb4
import Derived.Test.YtddaogebacigbaaGreatDoorSb3
import Derived.Test.YtddaogebacigbaaGreatDoorSb2
import Derived.Test.YtddaogebacigbaaGreatDoorSb1
import Derived.Test.YtddaogebacigbaaGreatDoorSvK
import Derived.Test.YtddaogebacigbaaGreatDoorSvS
open Go Go.Proofs.YtddaogebacigbaaGreatDoor.RV Go.Proofs.YtddaogebacigbaaGreatDoor.XA.Awk Go.Proofs.YtddaogebacigbaaGreatDoor.RV.ChartMath Go.Proofs
namespace Go.Proofs.YtddaogebacigbaaGreatDoor.RV.T
set_option maxRecDepth 100000
set_option linter.unusedVariables false
set_option linter.unusedSimpArgs false
structure JnsOk (ch : List Acc) (un : List Int) (a en : Int) (js : List Jn) : Prop where
  lines : ∀ j ∈ js, LinesOk ch un j.lines ∧ j.lines ≠ []
  days : js.Pairwise (fun x y => x.day ≤ y.day)
  rng : ∀ j ∈ js, a ≤ j.day ∧ j.day < en
  len : js.length ≤ 12
structure BookOk (a : Int) (ch : List Acc) (un st : List Int) (en : Int) (js : List Jn) : Prop where
  fr : FrameOk a ch un st en
  js : JnsOk ch un a en js
theorem jnP_plain (j : Jn) : plainP (jnP j) = true := by
  obtain ⟨_, _, _, h, _⟩ := (slP_is 4 (j.lines.map lnP)).all
  show (plainC [i32P j.day, slP 4 (j.lines.map lnP)] && _) = true
  simp [plainC, cp_lit, h]
def bkP (cp up sp : PV) (en : Int) (js : List Jn) : PV := .agg [cp, up, sp, i32P en, slP 2 (js.map jnP)]
def IsBk (a : Int) (q : PV) : Prop := ∃ ch un st en js cp up sp, BookOk a ch un st en js ∧ IsSl 4 (ch.map accP) cp ∧ IsSl 1 (un.map u16P) up ∧ IsSl 1 (st.map i32P) sp ∧ q = bkP cp up sp en js
theorem make10_ok (x : BV) (hw : BvOk x) (hl : LightOk x) : Fn cfg 28 [bvP x] (IsBk x.first) := by
  have hl4 := hl.js
  refine Fn.go Tryz.func28 (L := [(0, _)]) rfl rfl rfl (by first | rfl | (simp [deepL, deepB, *]; done) | (simp [deepL, deepB, *]; rfl)) rfl ?_
  refine Ps.seq ?_
  refine Ps.region rfl ?_
  refine Rs.box (l := [_, _, _, _, _]) rfl rfl rfl (by first | rfl | simp [deepB, deepL, *]) rfl ?_
  refine Rs.alloc (z := .agg [_, _, _, _, _]) (c := 5) rfl rfl rfl (fun g2 => ?_)
  refine Rs.nil ?_
  refine Ps.thn ?_
  refine Ps.seq ?_
  refine Ps.region rfl ?_
  refine Rs.loadD (p := .agg [_, _, _, _, _]) rfl rfl rfl rfl ?_
  refine Rs.call0 rfl rfl rfl (frame_ok x hw hl) (fun p9 hp => ?_)
  obtain ⟨ch, un, st, en, cp, up, sp, hF, hcp, hup, hsp, rfl⟩ := hp
  obtain ⟨cd, cs, cc, cl, cq⟩ := hcp.all
  obtain ⟨ud, us, uc, ul, uq⟩ := hup.all
  obtain ⟨sd, ss, sc, sl, sq⟩ := hsp.all
  have hC := hF.cal
  have hcl := hC.len
  have hend := hC.end_
  have hlow : x.first + 31 ≤ en := (hC.low _ (List.mem_of_getElem? hC.first)).2.2
  have hfr := hw.first
  refine Rs.buildB (cs := [(0, [_, _, _, _])]) (l := [_, _, _, _, _]) rfl rfl (by first | rfl | simp only [cellsOf, cc, uc, sc]; rfl) rfl ?_
  refine Rs.alloc (z := .agg [_, _, _, _, _]) (c := 5) rfl rfl rfl (fun g3 => ?_)
  first | refine Rs.store0 (l' := [.agg [_, _, _, _, _]]) rfl rfl rfl (by first | rfl | exact storeB_ag rfl rfl rfl (by simp [scalars, sc_int, sc_str, sc_bool, sc_nil, sc_dsl, sc_own, sc_g, sc_f, *]) | exact storeB_fld rfl (by first | assumption | exact cl_g | exact cl_f) (by first | assumption | exact sc_g | exact sc_f) rfl) ?_ | refine Rs.store1 (l' := [.agg [_, _, _, _, _]]) rfl rfl rfl (by first | rfl | exact storeB_ag rfl rfl rfl (by simp [scalars, sc_int, sc_str, sc_bool, sc_nil, sc_dsl, sc_own, sc_g, sc_f, *]) | exact storeB_fld rfl (by first | assumption | exact cl_g | exact cl_f) (by first | assumption | exact sc_g | exact sc_f) rfl) ?_ | refine Rs.store2 (l' := [.agg [_, _, _, _, _]]) rfl rfl rfl (by first | rfl | exact storeB_ag rfl rfl rfl (by simp [scalars, sc_int, sc_str, sc_bool, sc_nil, sc_dsl, sc_own, sc_g, sc_f, *]) | exact storeB_fld rfl (by first | assumption | exact cl_g | exact cl_f) (by first | assumption | exact sc_g | exact sc_f) rfl) ?_ | refine Rs.store3 (l' := [.agg [_, _, _, _, _]]) rfl rfl rfl (by first | rfl | exact storeB_ag rfl rfl rfl (by simp [scalars, sc_int, sc_str, sc_bool, sc_nil, sc_dsl, sc_own, sc_g, sc_f, *]) | exact storeB_fld rfl (by first | assumption | exact cl_g | exact cl_f) (by first | assumption | exact sc_g | exact sc_f) rfl) ?_
  refine Rs.nil ?_
  refine Ps.thn ?_
  refine Ps.seq ?_
  refine Ps.region rfl ?_
  first | refine Rs.fieldAddrD (off' := 0) rfl rfl rfl rfl ?_ | refine Rs.fieldAddrP (off' := 0) rfl rfl rfl rfl ?_
  first | refine Rs.fieldAddrD (off' := 2) rfl rfl rfl rfl ?_ | refine Rs.fieldAddrP (off' := 2) rfl rfl rfl rfl ?_
  first | refine Rs.fieldAddrD (off' := 2) rfl rfl rfl rfl ?_ | refine Rs.fieldAddrP (off' := 2) rfl rfl rfl rfl ?_
  first | refine Rs.loadR rfl rfl rfl rfl ?_ | refine Rs.loadP 0 rfl rfl rfl rfl rfl ?_ | refine Rs.loadP 1 rfl rfl rfl rfl rfl ?_ | refine Rs.loadP 2 rfl rfl rfl rfl rfl ?_ | refine Rs.loadP 3 rfl rfl rfl rfl rfl ?_
  first | refine Rs.indexD (lc := [_]) rfl rfl rfl rfl rfl rfl (map_at hC.first) rfl ?_ | refine Rs.indexS (lc := [_]) rfl rfl rfl rfl rfl (by assumption) rfl (map_at hC.first) rfl ?_
  first | refine Rs.loadR rfl rfl rfl rfl ?_ | refine Rs.loadP 0 rfl rfl rfl rfl rfl ?_ | refine Rs.loadP 1 rfl rfl rfl rfl rfl ?_ | refine Rs.loadP 2 rfl rfl rfl rfl rfl ?_ | refine Rs.loadP 3 rfl rfl rfl rfl rfl ?_
  refine Rs.assign rfl rfl ?_
  refine Rs.nil ?_
  refine Ps.thn ?_
  refine Ps.seq ?_
  refine Ps.seq ?_
  refine Ps.region rfl ?_
  first | refine Rs.fieldAddrD (off' := 4) rfl rfl rfl rfl ?_ | refine Rs.fieldAddrP (off' := 4) rfl rfl rfl rfl ?_
  refine Rs.loadD rfl rfl rfl rfl ?_
  first | refine Rs.lenD rfl rfl rfl rfl ?_ | refine Rs.lenO rfl rfl rfl rfl ?_ | refine Rs.lenI rfl rfl rfl rfl ?_ | refine Rs.lenA rfl rfl rfl rfl (by assumption) ?_ | refine Rs.lenS rfl rfl rfl rfl (by assumption) ?_
  refine Rs.move (p := .lit _) rfl rfl ?_
  refine Rs.nil ?_
  refine Ps.thn ?_
  refine Ps.block ?_
  -- loop 1 writes [4, 6, 7, 20, 21, 22, 23, 24, 25, 26, 27, 28, 29, 30, 31, 32, 33, 34, 35, 36, 37, 38, 39, 40, 41, 42, 43, 44, 45, 46, 47, 48, 49, 50, 51]
  refine Ps.loop (J := Nat × List Jn × Option (Nat × Nat) × Int) ⟨fun j => j.1 ≤ x.js.length ∧ j.2.1.length ≤ j.1 ∧ (∀ y ∈ j.2.1, LinesOk ch un y.lines ∧ y.lines ≠ []) ∧ j.2.1.Pairwise (fun x y => x.day ≤ y.day) ∧ (∀ y ∈ j.2.1, x.first ≤ y.day ∧ y.day ≤ j.2.2.2) ∧ x.first ≤ j.2.2.2 ∧ j.2.2.2 < en ∧ (j.2.2.1 = none ↔ j.2.1.map jnP = []), fun j => [(4, i32P j.2.2.2), (20, i64P j.1)], fun j => (g3, 0, .blk 5 [.agg [cp, up, sp, i32P en, gP 2 j.2.2.1 (j.2.1.map jnP)]] true) :: (g2, 0, .blk 5 [.agg [nilP, nilP, nilP, i32P 0, nilP]] true) :: (gM 2 j.2.2.1 (j.2.1.map jnP) ++ []), fun j => x.js.length - j.1⟩ [4, 6, 7, 20, 21, 22, 23, 24, 25, 26, 27, 28, 29, 30, 31, 32, 33, 34, 35, 36, 37, 38, 39, 40, 41, 42, 43, 44, 45, 46, 47, 48, 49, 50, 51] [(19, _), (18, _), (17, _), (16, _), (15, _), (14, _), (13, _), (12, _), (11, _), (3, _), (10, _), (9, _), (8, _), (2, _), (1, _), (0, _)] (0, [], none, x.first) rfl ⟨Nat.zero_le _, Nat.le_refl _, by simp, List.Pairwise.nil, by simp, Int.le_refl _, by show x.first < en; omega, by simp⟩ ⟨rfl, rfl, trivial⟩ (List.Sublist.refl _) (fun j hj => ?_)
  obtain ⟨j, js, a, d⟩ := j
  obtain ⟨hj, hjl, hjo, hjp, hjr, hd0, hd1, ha⟩ : j ≤ x.js.length ∧ js.length ≤ j ∧ (∀ y ∈ js, LinesOk ch un y.lines ∧ y.lines ≠ []) ∧ js.Pairwise (fun x y => x.day ≤ y.day) ∧ (∀ y ∈ js, x.first ≤ y.day ∧ y.day ≤ d) ∧ x.first ≤ d ∧ d < en ∧ (a = none ↔ js.map jnP = []) := hj
  dsimp only [List.cons_append, List.nil_append]
  refine Ps.seq ?_
  refine Ps.region rfl ?_
  refine Rs.binB rfl rfl rfl rfl rfl rfl ?_
  refine Rs.nil ?_
  refine Ps.thn ?_
  refine Ps.seq ?_
  refine Ps.if rfl (fun hc => ?_) (fun hc => ?_)
  · try (first | replace hc := D1 hc | replace hc := D2 hc | replace hc := D3 hc | replace hc := D4 hc | replace hc := D5 hc | replace hc := D6 hc | replace hc := D7 hc | replace hc := D8 hc | replace hc := D9 hc | replace hc := D10 hc)
    refine Ps.skip ?_
    refine Ps.thn ?_
    refine Ps.seq ?_
    refine Ps.block ?_
    refine Ps.seq ?_
    have hlt : j < x.js.length := by simp at hc; omega
    obtain ⟨y, hy⟩ := at_lt hlt
    have hym := List.mem_of_getElem? hy
    obtain ⟨hy1, hy2⟩ := hw.js y hym
    refine Ps.region rfl ?_
    first | refine Rs.indexD (lc := [_, _]) rfl rfl rfl rfl rfl rfl (map_at hy) rfl ?_ | refine Rs.indexS (lc := [_, _]) rfl rfl rfl rfl rfl (by assumption) rfl (map_at hy) rfl ?_
    first | refine Rs.loadR (p := .agg [_, _]) rfl rfl rfl rfl ?_ | refine Rs.loadP (p := .agg [_, _]) 0 rfl rfl rfl rfl rfl ?_ | refine Rs.loadP (p := .agg [_, _]) 1 rfl rfl rfl rfl rfl ?_ | refine Rs.loadP (p := .agg [_, _]) 2 rfl rfl rfl rfl rfl ?_ | refine Rs.loadP (p := .agg [_, _]) 3 rfl rfl rfl rfl rfl ?_
    refine Rs.alloc (z := .agg [_, _]) (c := 2) rfl rfl rfl (fun g6 => ?_)
    first | refine Rs.store0 (l' := [.agg [_, _]]) rfl rfl rfl (by first | rfl | exact storeB_ag rfl rfl rfl (by simp [scalars, sc_int, sc_str, sc_bool, sc_nil, sc_dsl, sc_own, sc_g, sc_f, *]) | exact storeB_fld rfl (by first | assumption | exact cl_g | exact cl_f) (by first | assumption | exact sc_g | exact sc_f) rfl) ?_ | refine Rs.store1 (l' := [.agg [_, _]]) rfl rfl rfl (by first | rfl | exact storeB_ag rfl rfl rfl (by simp [scalars, sc_int, sc_str, sc_bool, sc_nil, sc_dsl, sc_own, sc_g, sc_f, *]) | exact storeB_fld rfl (by first | assumption | exact cl_g | exact cl_f) (by first | assumption | exact sc_g | exact sc_f) rfl) ?_ | refine Rs.store2 (l' := [.agg [_, _]]) rfl rfl rfl (by first | rfl | exact storeB_ag rfl rfl rfl (by simp [scalars, sc_int, sc_str, sc_bool, sc_nil, sc_dsl, sc_own, sc_g, sc_f, *]) | exact storeB_fld rfl (by first | assumption | exact cl_g | exact cl_f) (by first | assumption | exact sc_g | exact sc_f) rfl) ?_ | refine Rs.store3 (l' := [.agg [_, _]]) rfl rfl rfl (by first | rfl | exact storeB_ag rfl rfl rfl (by simp [scalars, sc_int, sc_str, sc_bool, sc_nil, sc_dsl, sc_own, sc_g, sc_f, *]) | exact storeB_fld rfl (by first | assumption | exact cl_g | exact cl_f) (by first | assumption | exact sc_g | exact sc_f) rfl) ?_
    refine Rs.nil ?_
    refine Ps.thn ?_
    refine Ps.seq ?_
    refine Ps.region rfl ?_
    refine Rs.move rfl rfl ?_
    first | refine Rs.fieldAddrD (off' := 0) rfl rfl rfl rfl ?_ | refine Rs.fieldAddrP (off' := 0) rfl rfl rfl rfl ?_
    first | refine Rs.loadR rfl rfl rfl rfl ?_ | refine Rs.loadP 0 rfl rfl rfl rfl rfl ?_ | refine Rs.loadP 1 rfl rfl rfl rfl rfl ?_ | refine Rs.loadP 2 rfl rfl rfl rfl rfl ?_ | refine Rs.loadP 3 rfl rfl rfl rfl rfl ?_
    refine Rs.rem rfl rfl rfl (by omega) (by first | exact Int.tmod_eq_emod_of_nonneg (by omega) | rfl) ?_
    refine Rs.convI rfl rfl ⟨_, rfl⟩ rfl rfl (by first | exact W_i32 (by omega) (by omega) | rfl) ?_
    refine Rs.add rfl rfl rfl (by first | exact W_i32 (by omega) (by omega) | rfl) ?_
    first | refine Rs.fieldAddrD (off' := 0) rfl rfl rfl rfl ?_ | refine Rs.fieldAddrP (off' := 0) rfl rfl rfl rfl ?_
    first | refine Rs.fieldAddrD (off' := 2) rfl rfl rfl rfl ?_ | refine Rs.fieldAddrP (off' := 2) rfl rfl rfl rfl ?_
    first | refine Rs.fieldAddrD (off' := 3) rfl rfl rfl rfl ?_ | refine Rs.fieldAddrP (off' := 3) rfl rfl rfl rfl ?_
    first | refine Rs.loadR rfl rfl rfl rfl ?_ | refine Rs.loadP 0 rfl rfl rfl rfl rfl ?_ | refine Rs.loadP 1 rfl rfl rfl rfl rfl ?_ | refine Rs.loadP 2 rfl rfl rfl rfl rfl ?_ | refine Rs.loadP 3 rfl rfl rfl rfl rfl ?_
    refine Rs.sub rfl rfl rfl (by first | exact W_i32 (by omega) (by omega) | rfl) ?_
    refine Rs.min rfl rfl rfl ?_
    refine Rs.assign rfl rfl ?_
    refine Rs.nil ?_
    refine Ps.thn ?_
    refine Ps.seq ?_
    obtain ⟨e, he, he0, he1⟩ : ∃ e, (if en - 1 < d + y.later % 40 then en - 1 else d + y.later % 40) = e ∧ d ≤ e ∧ e < en := by
      by_cases h : en - 1 < d + y.later % 40
      · exact ⟨en - 1, if_pos h, by omega, by omega⟩
      · exact ⟨d + y.later % 40, if_neg h, by omega, by omega⟩
    rw [he]
    refine Ps.region rfl ?_
    first | refine Rs.loadR (p := .agg [_, _]) rfl rfl rfl rfl ?_ | refine Rs.loadP (p := .agg [_, _]) 0 rfl rfl rfl rfl rfl ?_ | refine Rs.loadP (p := .agg [_, _]) 1 rfl rfl rfl rfl rfl ?_ | refine Rs.loadP (p := .agg [_, _]) 2 rfl rfl rfl rfl rfl ?_ | refine Rs.loadP (p := .agg [_, _]) 3 rfl rfl rfl rfl rfl ?_
    first | refine Rs.fieldAddrD (off' := 0) rfl rfl rfl rfl ?_ | refine Rs.fieldAddrP (off' := 0) rfl rfl rfl rfl ?_
    first | refine Rs.loadR (p := .agg [_, _, _, _]) rfl rfl rfl rfl ?_ | refine Rs.loadP (p := .agg [_, _, _, _]) 0 rfl rfl rfl rfl rfl ?_ | refine Rs.loadP (p := .agg [_, _, _, _]) 1 rfl rfl rfl rfl rfl ?_ | refine Rs.loadP (p := .agg [_, _, _, _]) 2 rfl rfl rfl rfl rfl ?_ | refine Rs.loadP (p := .agg [_, _, _, _]) 3 rfl rfl rfl rfl rfl ?_
    refine Rs.call0 rfl rfl rfl (lines_ok y hy2 (hl.lines y hym) ch un st en cp up sp hcp hup hsp hF.chart hF.un_ hF.chSome hF.unSome) (fun p39 hp => ?_)
    obtain ⟨out, hout, rfl⟩ := hp
    have oi := slP_is 4 (out.map lnP)
    refine Rs.assign rfl rfl ?_
    refine Rs.nil ?_
    refine Ps.thn ?_
    refine Ps.seq ?_
    refine Ps.region rfl ?_
    refine Rs.move rfl rfl ?_
    first | refine Rs.lenD rfl rfl rfl rfl ?_ | refine Rs.lenO rfl rfl rfl rfl ?_ | refine Rs.lenI rfl rfl rfl rfl ?_ | refine Rs.lenA rfl rfl rfl rfl (by assumption) ?_ | refine Rs.lenS rfl rfl rfl rfl (by assumption) ?_
    refine Rs.binB rfl rfl rfl rfl rfl rfl ?_
    refine Rs.nil ?_
    refine Ps.thn ?_
    refine Ps.if rfl (fun hc => ?_) (fun hc => ?_)
    · try (first | replace hc := D1 hc | replace hc := D2 hc | replace hc := D3 hc | replace hc := D4 hc | replace hc := D5 hc | replace hc := D6 hc | replace hc := D7 hc | replace hc := D8 hc | replace hc := D9 hc | replace hc := D10 hc)
      have hne : out.map lnP ≠ [] := by intro e; rw [e] at hc; simp at hc
      rw [slP_ne hne]
      refine Ps.region rfl ?_
      first | refine Rs.fieldAddrD (off' := 4) rfl rfl rfl rfl ?_ | refine Rs.fieldAddrP (off' := 4) rfl rfl rfl rfl ?_
      first | refine Rs.loadR rfl rfl rfl rfl ?_ | refine Rs.loadP 0 rfl rfl rfl rfl rfl ?_ | refine Rs.loadP 1 rfl rfl rfl rfl rfl ?_ | refine Rs.loadP 2 rfl rfl rfl rfl rfl ?_ | refine Rs.loadP 3 rfl rfl rfl rfl rfl ?_
      refine Rs.move rfl rfl ?_
      refine Rs.move rfl rfl ?_
      refine Rs.buildB (cs := [(0, [_]), (1, [_])]) (l := [_, _]) rfl rfl (by first | rfl | simp only [cellsOf, cc, uc, sc]; rfl) rfl ?_
      refine Rs.buildSlice (l := [_]) rfl rfl rfl rfl (by first | rfl | simp [deepL, deepB, *]) ?_
      first | refine Rs.append0 2 32 rfl rfl ⟨_, rfl⟩ rfl rfl rfl rfl rfl rfl rfl rfl rfl rfl (by assumption) rfl (by first | rfl | simp [scalarsE, scalars, PV.cells, sc_int, sc_str, sc_bool, sc_nil, sc_dsl, *]) (by simp; omega) (fun a49 ha49 => ?_) | refine Rs.append1 2 32 rfl rfl ⟨_, rfl⟩ rfl rfl rfl rfl rfl rfl rfl rfl rfl rfl (by assumption) rfl (by first | rfl | simp [scalarsE, scalars, PV.cells, sc_int, sc_str, sc_bool, sc_nil, sc_dsl, *]) (by simp; omega) (fun a49 ha49 => ?_) | refine Rs.append2 2 32 rfl rfl ⟨_, rfl⟩ rfl rfl rfl rfl rfl rfl rfl rfl rfl rfl (by assumption) rfl (by first | rfl | simp [scalarsE, scalars, PV.cells, sc_int, sc_str, sc_bool, sc_nil, sc_dsl, *]) (by simp; omega) (fun a49 ha49 => ?_) | refine Rs.append3 2 32 rfl rfl ⟨_, rfl⟩ rfl rfl rfl rfl rfl rfl rfl rfl rfl rfl (by assumption) rfl (by first | rfl | simp [scalarsE, scalars, PV.cells, sc_int, sc_str, sc_bool, sc_nil, sc_dsl, *]) (by simp; omega) (fun a49 ha49 => ?_)
      first | refine Rs.fieldAddrD (off' := 4) rfl rfl rfl rfl ?_ | refine Rs.fieldAddrP (off' := 4) rfl rfl rfl rfl ?_
      first | refine Rs.store0 (l' := [.agg [_, _, _, _, _]]) rfl rfl rfl (by first | rfl | exact storeB_ag rfl rfl rfl (by simp [scalars, sc_int, sc_str, sc_bool, sc_nil, sc_dsl, sc_own, sc_g, sc_f, *]) | exact storeB_fld rfl (by first | assumption | exact cl_g | exact cl_f) (by first | assumption | exact sc_g | exact sc_f) rfl) ?_ | refine Rs.store1 (l' := [.agg [_, _, _, _, _]]) rfl rfl rfl (by first | rfl | exact storeB_ag rfl rfl rfl (by simp [scalars, sc_int, sc_str, sc_bool, sc_nil, sc_dsl, sc_own, sc_g, sc_f, *]) | exact storeB_fld rfl (by first | assumption | exact cl_g | exact cl_f) (by first | assumption | exact sc_g | exact sc_f) rfl) ?_ | refine Rs.store2 (l' := [.agg [_, _, _, _, _]]) rfl rfl rfl (by first | rfl | exact storeB_ag rfl rfl rfl (by simp [scalars, sc_int, sc_str, sc_bool, sc_nil, sc_dsl, sc_own, sc_g, sc_f, *]) | exact storeB_fld rfl (by first | assumption | exact cl_g | exact cl_f) (by first | assumption | exact sc_g | exact sc_f) rfl) ?_ | refine Rs.store3 (l' := [.agg [_, _, _, _, _]]) rfl rfl rfl (by first | rfl | exact storeB_ag rfl rfl rfl (by simp [scalars, sc_int, sc_str, sc_bool, sc_nil, sc_dsl, sc_own, sc_g, sc_f, *]) | exact storeB_fld rfl (by first | assumption | exact cl_g | exact cl_f) (by first | assumption | exact sc_g | exact sc_f) rfl) ?_
      refine Rs.nil ?_
      refine Ps.blk ?_
      refine Ps.thn ?_
      refine Ps.region rfl ?_
      refine Rs.add rfl rfl rfl (by first | exact W_i64s (by omega) | exact W_i64 (by omega) (by omega) | rfl) ?_
      refine Rs.move rfl rfl ?_
      refine Rs.nil ?_
      -- leaf 1 (round1)
      have hday : ∀ z ∈ js, x.first ≤ z.day ∧ z.day ≤ e := fun z hz => by have := hjr z hz; omega
      first
        | (rw [show List.map jnP js ++ [PV.agg [PV.lit (Value.int IntKind.i32 e), PV.dsl 4 (List.map lnP out) none]] = List.map jnP (js ++ [(⟨e, out⟩ : Jn)]) by rw [List.map_append, List.map_singleton]; unfold jnP; dsimp only; rw [slP_ne hne]] at ha49 ⊢
           refine Ps.round (j + 1, js ++ [⟨e, out⟩], a49, e) ⟨hlt, by simp; omega, ?_, ?_, ?_, by show x.first ≤ e; omega, he1, ha49⟩ (by show x.js.length - (j + 1) < x.js.length - j; omega) ⟨rfl, rfl, trivial⟩ (by repeat' first | exact HasL.nil | refine HasL.cons rfl ?_) (by repeat' first | exact List.Sublist.refl _ | exact List.nil_sublist _ | exact List.sublist_append_left _ _ | refine List.Sublist.cons₂ _ ?_ | refine List.Sublist.cons _ ?_)
           · intro z hz
             rcases List.mem_append.1 hz with hz | hz
             · exact hjo z hz
             · rw [List.mem_singleton.1 hz]; exact ⟨hout, fun h => hne (by rw [show out = [] from h]; rfl)⟩
           · refine List.pairwise_append.2 ⟨hjp, List.pairwise_singleton _ _, fun z hz w hw => ?_⟩
             rw [List.mem_singleton.1 hw]
             exact (hday z hz).2
           · intro z hz
             rcases List.mem_append.1 hz with hz | hz
             · exact hday z hz
             · rw [List.mem_singleton.1 hz]; exact ⟨by show x.first ≤ e; omega, Int.le_refl _⟩)
        | exact Ps.round (j + 1, js, a, e) ⟨hlt, by show js.length ≤ j + 1; omega, hjo, hjp, hday, by show x.first ≤ e; omega, he1, ha⟩ (by show x.js.length - (j + 1) < x.js.length - j; omega) ⟨rfl, rfl, trivial⟩ (by repeat' first | exact HasL.nil | refine HasL.cons rfl ?_) (by repeat' first | exact List.Sublist.refl _ | exact List.nil_sublist _ | exact List.sublist_append_left _ _ | refine List.Sublist.cons₂ _ ?_ | refine List.Sublist.cons _ ?_)
    · try (first | replace hc := D1 hc | replace hc := D2 hc | replace hc := D3 hc | replace hc := D4 hc | replace hc := D5 hc | replace hc := D6 hc | replace hc := D7 hc | replace hc := D8 hc | replace hc := D9 hc | replace hc := D10 hc)
      refine Ps.skip ?_
      refine Ps.blk ?_
      refine Ps.thn ?_
      refine Ps.region rfl ?_
      refine Rs.add rfl rfl rfl (by first | exact W_i64s (by omega) | exact W_i64 (by omega) (by omega) | rfl) ?_
      refine Rs.move rfl rfl ?_
      refine Rs.nil ?_
      -- leaf 2 (round1)
      have hday : ∀ z ∈ js, x.first ≤ z.day ∧ z.day ≤ e := fun z hz => by have := hjr z hz; omega
      first
        | (rw [show List.map jnP js ++ [PV.agg [PV.lit (Value.int IntKind.i32 e), PV.dsl 4 (List.map lnP out) none]] = List.map jnP (js ++ [(⟨e, out⟩ : Jn)]) by rw [List.map_append, List.map_singleton]; unfold jnP; dsimp only; rw [slP_ne hne]] at ha49 ⊢
           refine Ps.round (j + 1, js ++ [⟨e, out⟩], a49, e) ⟨hlt, by simp; omega, ?_, ?_, ?_, by show x.first ≤ e; omega, he1, ha49⟩ (by show x.js.length - (j + 1) < x.js.length - j; omega) ⟨rfl, rfl, trivial⟩ (by repeat' first | exact HasL.nil | refine HasL.cons rfl ?_) (by repeat' first | exact List.Sublist.refl _ | exact List.nil_sublist _ | exact List.sublist_append_left _ _ | refine List.Sublist.cons₂ _ ?_ | refine List.Sublist.cons _ ?_)
           · intro z hz
             rcases List.mem_append.1 hz with hz | hz
             · exact hjo z hz
             · rw [List.mem_singleton.1 hz]; exact ⟨hout, fun h => hne (by rw [show out = [] from h]; rfl)⟩
           · refine List.pairwise_append.2 ⟨hjp, List.pairwise_singleton _ _, fun z hz w hw => ?_⟩
             rw [List.mem_singleton.1 hw]
             exact (hday z hz).2
           · intro z hz
             rcases List.mem_append.1 hz with hz | hz
             · exact hday z hz
             · rw [List.mem_singleton.1 hz]; exact ⟨by show x.first ≤ e; omega, Int.le_refl _⟩)
        | exact Ps.round (j + 1, js, a, e) ⟨hlt, by show js.length ≤ j + 1; omega, hjo, hjp, hday, by show x.first ≤ e; omega, he1, ha⟩ (by show x.js.length - (j + 1) < x.js.length - j; omega) ⟨rfl, rfl, trivial⟩ (by repeat' first | exact HasL.nil | refine HasL.cons rfl ?_) (by repeat' first | exact List.Sublist.refl _ | exact List.nil_sublist _ | exact List.sublist_append_left _ _ | refine List.Sublist.cons₂ _ ?_ | refine List.Sublist.cons _ ?_)
  · try (first | replace hc := D1 hc | replace hc := D2 hc | replace hc := D3 hc | replace hc := D4 hc | replace hc := D5 hc | replace hc := D6 hc | replace hc := D7 hc | replace hc := D8 hc | replace hc := D9 hc | replace hc := D10 hc)
    refine Ps.exit ?_
    refine Ps.thn_exit ?_
    refine Ps.rnd_exit ?_
    refine Ps.blk_here ?_
    refine Ps.thn ?_
    refine Ps.seq ?_
    refine Ps.region rfl ?_
    first | refine Rs.loadR (p := .agg [_, _, _, _, _]) rfl rfl rfl rfl ?_ | refine Rs.loadP (p := .agg [_, _, _, _, _]) 0 rfl rfl rfl rfl rfl ?_ | refine Rs.loadP (p := .agg [_, _, _, _, _]) 1 rfl rfl rfl rfl rfl ?_ | refine Rs.loadP (p := .agg [_, _, _, _, _]) 2 rfl rfl rfl rfl rfl ?_ | refine Rs.loadP (p := .agg [_, _, _, _, _]) 3 rfl rfl rfl rfl rfl ?_
    first | refine Rs.store0 (l' := [.agg [_, _, _, _, _]]) rfl rfl rfl (by first | rfl | exact storeB_ag rfl rfl rfl (by simp [scalars, sc_int, sc_str, sc_bool, sc_nil, sc_dsl, sc_own, sc_g, sc_f, *]) | exact storeB_fld rfl (by first | assumption | exact cl_g | exact cl_f) (by first | assumption | exact sc_g | exact sc_f) rfl) ?_ | refine Rs.store1 (l' := [.agg [_, _, _, _, _]]) rfl rfl rfl (by first | rfl | exact storeB_ag rfl rfl rfl (by simp [scalars, sc_int, sc_str, sc_bool, sc_nil, sc_dsl, sc_own, sc_g, sc_f, *]) | exact storeB_fld rfl (by first | assumption | exact cl_g | exact cl_f) (by first | assumption | exact sc_g | exact sc_f) rfl) ?_ | refine Rs.store2 (l' := [.agg [_, _, _, _, _]]) rfl rfl rfl (by first | rfl | exact storeB_ag rfl rfl rfl (by simp [scalars, sc_int, sc_str, sc_bool, sc_nil, sc_dsl, sc_own, sc_g, sc_f, *]) | exact storeB_fld rfl (by first | assumption | exact cl_g | exact cl_f) (by first | assumption | exact sc_g | exact sc_f) rfl) ?_ | refine Rs.store3 (l' := [.agg [_, _, _, _, _]]) rfl rfl rfl (by first | rfl | exact storeB_ag rfl rfl rfl (by simp [scalars, sc_int, sc_str, sc_bool, sc_nil, sc_dsl, sc_own, sc_g, sc_f, *]) | exact storeB_fld rfl (by first | assumption | exact cl_g | exact cl_f) (by first | assumption | exact sc_g | exact sc_f) rfl) ?_
    refine Rs.nil ?_
    refine Ps.thn ?_
    refine Ps.ret ?_
    -- leaf 3 (ret)
    refine Ps.finX (l := [_]) rfl (by (first | refine ResR.cell (p := .agg [_, _, _, _, _]) 0 rfl rfl rfl ?_ | refine ResR.cell (p := .agg [_, _, _, _, _]) 1 rfl rfl rfl ?_ | refine ResR.cell (p := .agg [_, _, _, _, _]) 2 rfl rfl rfl ?_ | refine ResR.cell (p := .agg [_, _, _, _, _]) 3 rfl rfl rfl ?_); exact ResR.nil) (fun H hH => ?_)
    have hg := Dp.g (s := 2) (a := a) (l := js.map jnP) ha hH (fun x hx => by simp [hx]) (by intro p hp; obtain ⟨z, _, rfl⟩ := List.mem_map.1 hp; exact jnP_plain z) (by simp; omega)
    refine ⟨_, (Dp.agg (DpL.cons (Dp.sl 95000 hcp) (DpL.cons (Dp.sl 95000 hup) (DpL.cons (Dp.sl 95000 hsp) (DpL.cons (Dp.plain 95000 rfl rfl) (DpL.cons hg DpL.nil))))) (m := 96000) rfl).top rfl, ch, un, st, en, js, cp, up, sp, ⟨hF, hjo, hjp, fun z hz => ?_, by omega⟩, hcp, hup, hsp, rfl⟩
    have := hjr z hz
    omega
theorem days_ok (cp up sp : PV) (en : Int) (js : List Jn) (hcp : deepB cp = true ∧ cp.cells = [cp] ∧ cellP cp = true) (hup : deepB up = true ∧ up.cells = [up] ∧ cellP up = true) (hsp : deepB sp = true ∧ sp.cells = [sp] ∧ cellP sp = true) (hl : js.length < 1000000) :
    Fn cfg 29 [bkP cp up sp en js] (fun q => (js = [] ∧ q = .tup [i32P 0, i32P 0, boolP false]) ∨ ∃ f l, js.head? = some f ∧ js.getLast? = some l ∧ q = .tup [i32P f.day, i32P l.day, boolP true]) := by
  obtain ⟨c1, c2, c3⟩ := hcp
  obtain ⟨u1, u2, u3⟩ := hup
  obtain ⟨s1, s2, s3⟩ := hsp
  have ji := slP_is 2 (js.map jnP)
  obtain ⟨j1, j2, j3, j4, j5⟩ := ji.all
  refine Fn.go Tryz.func29 (L := [(0, _)]) rfl rfl rfl (by simp [deepL, deepB, bkP, *]) rfl ?_
  refine Ps.seq ?_
  refine Ps.region rfl ?_
  refine Rs.box (l := [_, _, _, _, _]) rfl rfl rfl (by simp [deepB, deepL, bkP, *]) rfl ?_
  refine Rs.assign (p := .lit _) rfl rfl ?_
  refine Rs.assign (p := .lit _) rfl rfl ?_
  refine Rs.assign (p := .lit _) rfl rfl ?_
  refine Rs.nil ?_
  refine Ps.thn ?_
  refine Ps.seq ?_
  refine Ps.seq ?_
  refine Ps.region rfl ?_
  first | refine Rs.fieldAddrD rfl rfl rfl rfl ?_ | refine Rs.fieldAddrP rfl rfl rfl rfl ?_
  refine Rs.loadD rfl rfl rfl rfl ?_
  first | refine Rs.lenD rfl rfl rfl rfl ?_ | refine Rs.lenO rfl rfl rfl rfl ?_ | refine Rs.lenI rfl rfl rfl rfl ?_ | refine Rs.lenA rfl rfl rfl rfl (by assumption) ?_ | refine Rs.lenS rfl rfl rfl rfl (by assumption) ?_
  refine Rs.binB rfl rfl rfl rfl rfl rfl ?_
  refine Rs.nil ?_
  refine Ps.thn ?_
  refine Ps.if rfl (fun hc => ?_) (fun hc => ?_)
  · try (first | replace hc := D1 hc | replace hc := D2 hc | replace hc := D3 hc | replace hc := D4 hc | replace hc := D5 hc | replace hc := D6 hc | replace hc := D7 hc | replace hc := D8 hc | replace hc := D9 hc | replace hc := D10 hc)
    refine Ps.seq ?_
    refine Ps.region rfl ?_
    refine Rs.assign (p := .lit _) rfl rfl ?_
    refine Rs.assign (p := .lit _) rfl rfl ?_
    refine Rs.assign (p := .lit _) rfl rfl ?_
    refine Rs.nil ?_
    refine Ps.thn ?_
    refine Ps.ret ?_
    refine Ps.thn_ret ?_
    -- leaf 1 (ret)
    refine Ps.finP (l := [_, _, _]) rfl (by refine ResR.tmp rfl ?_; refine ResR.tmp rfl ?_; refine ResR.tmp rfl ?_; exact ResR.nil) (by first | rfl | simp [plainP, plainC, cp_lit, cp_dsl, *]) rfl ?_
    first
      | exact .inl ⟨by simpa using hc, rfl⟩
      | exact .inr ⟨f, l, by rw [List.head?_eq_getElem?]; exact hf, by rw [List.getLast?_eq_getElem?]; exact hll, rfl⟩
  · try (first | replace hc := D1 hc | replace hc := D2 hc | replace hc := D3 hc | replace hc := D4 hc | replace hc := D5 hc | replace hc := D6 hc | replace hc := D7 hc | replace hc := D8 hc | replace hc := D9 hc | replace hc := D10 hc)
    refine Ps.skip ?_
    refine Ps.thn ?_
    refine Ps.seq ?_
    have hne : js ≠ [] := by intro h; subst h; simp at hc
    have hjm : (js.map jnP).length = js.length := List.length_map ..
    have hlp := List.length_pos_iff.2 hne
    obtain ⟨f, hf⟩ := at_lt hlp
    obtain ⟨l, hll⟩ := at_lt (show js.length - 1 < js.length by omega)
    refine Ps.region rfl ?_
    first | refine Rs.fieldAddrD rfl rfl rfl rfl ?_ | refine Rs.fieldAddrP rfl rfl rfl rfl ?_
    refine Rs.loadD rfl rfl rfl rfl ?_
    first | refine Rs.indexD (lc := [_, _]) rfl rfl rfl rfl rfl rfl (map_at hf) rfl ?_ | refine Rs.indexS (lc := [_, _]) rfl rfl rfl rfl rfl (by assumption) rfl (map_at hf) rfl ?_
    first | refine Rs.fieldAddrD (off' := 0) rfl rfl rfl rfl ?_ | refine Rs.fieldAddrP (off' := 0) rfl rfl rfl rfl ?_
    first | refine Rs.loadR rfl rfl rfl rfl ?_ | refine Rs.loadP 0 rfl rfl rfl rfl rfl ?_ | refine Rs.loadP 1 rfl rfl rfl rfl rfl ?_ | refine Rs.loadP 2 rfl rfl rfl rfl rfl ?_ | refine Rs.loadP 3 rfl rfl rfl rfl rfl ?_
    first | refine Rs.fieldAddrD rfl rfl rfl rfl ?_ | refine Rs.fieldAddrP rfl rfl rfl rfl ?_
    refine Rs.loadD rfl rfl rfl rfl ?_
    first | refine Rs.fieldAddrD rfl rfl rfl rfl ?_ | refine Rs.fieldAddrP rfl rfl rfl rfl ?_
    refine Rs.loadD rfl rfl rfl rfl ?_
    first | refine Rs.lenD rfl rfl rfl rfl ?_ | refine Rs.lenO rfl rfl rfl rfl ?_ | refine Rs.lenI rfl rfl rfl rfl ?_ | refine Rs.lenA rfl rfl rfl rfl (by assumption) ?_ | refine Rs.lenS rfl rfl rfl rfl (by assumption) ?_
    refine Rs.sub rfl rfl rfl (by first | exact W_i64p (by omega) (by omega) | exact W_i64 (by omega) (by omega) | rfl) ?_
    first | refine Rs.indexD (lc := [_, _]) rfl rfl rfl rfl rfl (by omega) (map_at hll) rfl ?_ | refine Rs.indexS (lc := [_, _]) rfl rfl rfl rfl rfl (by assumption) (by omega) (map_at hll) rfl ?_
    first | refine Rs.fieldAddrD (off' := 0) rfl rfl rfl rfl ?_ | refine Rs.fieldAddrP (off' := 0) rfl rfl rfl rfl ?_
    first | refine Rs.loadR rfl rfl rfl rfl ?_ | refine Rs.loadP 0 rfl rfl rfl rfl rfl ?_ | refine Rs.loadP 1 rfl rfl rfl rfl rfl ?_ | refine Rs.loadP 2 rfl rfl rfl rfl rfl ?_ | refine Rs.loadP 3 rfl rfl rfl rfl rfl ?_
    refine Rs.assign rfl rfl ?_
    refine Rs.assign rfl rfl ?_
    refine Rs.assign (p := .lit _) rfl rfl ?_
    refine Rs.nil ?_
    refine Ps.thn ?_
    refine Ps.ret ?_
    -- leaf 2 (ret)
    refine Ps.finP (l := [_, _, _]) rfl (by refine ResR.tmp rfl ?_; refine ResR.tmp rfl ?_; refine ResR.tmp rfl ?_; exact ResR.nil) (by first | rfl | simp [plainP, plainC, cp_lit, cp_dsl, *]) rfl ?_
    first
      | exact .inl ⟨by simpa using hc, rfl⟩
      | exact .inr ⟨f, l, by rw [List.head?_eq_getElem?]; exact hf, by rw [List.getLast?_eq_getElem?]; exact hll, rfl⟩
end Go.Proofs.YtddaogebacigbaaGreatDoor.RV.T
