/- A part of the symbolic runs of functions by the evaluator (TB5). Conditions: none. -/
import Derived.Test.YtddaogebacigbaaGreatDoorSb4
import Derived.Test.YtddaogebacigbaaGreatDoorSb3
import Derived.Test.YtddaogebacigbaaGreatDoorSb2
import Derived.Test.YtddaogebacigbaaGreatDoorSb1
import Derived.Test.YtddaogebacigbaaGreatDoorSvK
import Derived.Test.YtddaogebacigbaaGreatDoorSvS
open Go Go.Proofs.YtddaogebacigbaaGreatDoor.RV Go.Proofs.YtddaogebacigbaaGreatDoor.XA.Awk Go.Proofs.YtddaogebacigbaaGreatDoor.RV.ChartMath Go.Proofs
namespace Go.Proofs.YtddaogebacigbaaGreatDoor.RV.T
set_option maxRecDepth 100000
set_option linter.unusedVariables false
set_option linter.unusedSimpArgs false
structure MadeC (a : Int) (s : List Int) (e : Int) : Prop where
  si : SI s
  len : 1 ≤ s.length ∧ s.length ≤ 13
  first : s[0]? = some a
  low : ∀ x ∈ s, a ≤ x ∧ x ≤ a + 480 ∧ x + 31 ≤ e
  end_ : e ≤ a + 511
theorem make08_ok (a : Int) (l : List Int) (p : PV) (hp : IsSl 1 (l.map u8P) p) (hl : l.length < 1000000) (ha : -32768 ≤ a ∧ a ≤ 32767) (hw : ∀ x ∈ l, 0 ≤ x ∧ x ≤ 255) : Fn cfg 51 [i16P a, p] (fun q => ∃ s e r, MadeC a s e ∧ IsSl 1 (s.map i32P) r ∧ q = .agg [r, i32P e]) := by
  refine Fn.go Tryz.func51 (L := [(0, _), (1, _)]) rfl rfl rfl (by simp [deepL, hp.deep, deepB]) rfl ?_
  refine Ps.seq ?_
  refine Ps.region rfl ?_
  refine Rs.alloc (z := .agg [_, _]) (c := 2) rfl rfl rfl (fun g4 => ?_)
  refine Rs.nil ?_
  refine Ps.thn ?_
  refine Ps.seq ?_
  refine Ps.region rfl ?_
  refine Rs.move rfl rfl ?_
  refine Rs.convI rfl rfl ⟨_, rfl⟩ rfl rfl (by first | exact W_i32 (by omega) (by omega) | rfl) ?_
  refine Rs.assign rfl rfl ?_
  refine Rs.nil ?_
  refine Ps.thn ?_
  refine Ps.seq ?_
  refine Ps.region rfl ?_
  refine Rs.move rfl rfl ?_
  refine Rs.buildSlice (l := [_]) rfl rfl rfl rfl (by first | rfl | simp [deepL, deepB, *]) ?_
  refine Rs.buildB (cs := [(0, [_])]) (l := [_, _]) rfl rfl (by first | rfl | simp only [cellsOf]; rfl) rfl ?_
  refine Rs.alloc (z := .agg [_, _]) (c := 2) rfl rfl rfl (fun g6 => ?_)
  first | refine Rs.store0 (l' := [.agg [_, _]]) rfl rfl rfl (by first | rfl | exact storeB_ag rfl rfl rfl (by simp [scalars, sc_int, sc_str, sc_bool, sc_nil, sc_dsl, sc_own, sc_g, sc_f, *]) | exact storeB_fld rfl (by first | assumption | exact cl_g | exact cl_f) (by first | assumption | exact sc_g | exact sc_f) rfl) ?_ | refine Rs.store1 (l' := [.agg [_, _]]) rfl rfl rfl (by first | rfl | exact storeB_ag rfl rfl rfl (by simp [scalars, sc_int, sc_str, sc_bool, sc_nil, sc_dsl, sc_own, sc_g, sc_f, *]) | exact storeB_fld rfl (by first | assumption | exact cl_g | exact cl_f) (by first | assumption | exact sc_g | exact sc_f) rfl) ?_ | refine Rs.store2 (l' := [.agg [_, _]]) rfl rfl rfl (by first | rfl | exact storeB_ag rfl rfl rfl (by simp [scalars, sc_int, sc_str, sc_bool, sc_nil, sc_dsl, sc_own, sc_g, sc_f, *]) | exact storeB_fld rfl (by first | assumption | exact cl_g | exact cl_f) (by first | assumption | exact sc_g | exact sc_f) rfl) ?_ | refine Rs.store3 (l' := [.agg [_, _]]) rfl rfl rfl (by first | rfl | exact storeB_ag rfl rfl rfl (by simp [scalars, sc_int, sc_str, sc_bool, sc_nil, sc_dsl, sc_own, sc_g, sc_f, *]) | exact storeB_fld rfl (by first | assumption | exact cl_g | exact cl_f) (by first | assumption | exact sc_g | exact sc_f) rfl) ?_
  refine Rs.nil ?_
  refine Ps.thn ?_
  refine Ps.seq ?_
  refine Ps.seq ?_
  refine Ps.region rfl ?_
  refine Rs.move rfl rfl ?_
  first | refine Rs.lenD rfl rfl rfl rfl ?_ | refine Rs.lenO rfl rfl rfl rfl ?_ | refine Rs.lenI rfl rfl rfl rfl ?_ | refine Rs.lenA rfl rfl rfl rfl (by assumption) ?_ | refine Rs.lenS rfl rfl rfl rfl (by assumption) ?_
  refine Rs.move (p := .lit _) rfl rfl ?_
  refine Rs.nil ?_
  refine Ps.thn ?_
  refine Ps.block ?_
  -- loop 1 writes [5, 7, 8, 16, 17, 18, 19, 20, 21, 22, 23, 24, 25, 26, 27, 28, 29, 30, 31, 32, 33, 34, 35]
  refine Ps.loop (J := Nat × List Int × Int × Option (Nat × Nat)) ⟨fun j => j.1 ≤ l.length ∧ j.1 ≤ 12 ∧ j.2.1.length = j.1 + 1 ∧ SI j.2.1 ∧ j.2.1[0]? = some a ∧ (∀ x ∈ j.2.1, a ≤ x ∧ x ≤ j.2.2.1) ∧ a ≤ j.2.2.1 ∧ j.2.2.1 ≤ a + 40 * j.1, fun j => [(5, i32P j.2.2.1), (16, i64P j.1)], fun j => (g6, 0, .blk 2 [.agg [fP 1 j.2.2.2 (j.2.1.map i32P), i32P 0]] true) :: (g4, 0, .blk 2 [.agg [nilP, i32P 0]] true) :: (fM 1 j.2.2.2 (j.2.1.map i32P) ++ []), fun j => l.length - j.1⟩ [5, 7, 8, 16, 17, 18, 19, 20, 21, 22, 23, 24, 25, 26, 27, 28, 29, 30, 31, 32, 33, 34, 35] [(15, _), (14, _), (6, _), (13, _), (12, _), (11, _), (10, _), (9, _), (4, _), (0, _), (1, _)] (0, [a], a, none) rfl ⟨Nat.zero_le _, Nat.zero_le _, rfl, List.pairwise_singleton _ _, rfl, by simp, by simp, by simp⟩ ⟨rfl, rfl, trivial⟩ (List.Sublist.refl _) (fun j hj => ?_)
  obtain ⟨j, s, d, b⟩ := j
  obtain ⟨hj, h12, hsl, hsi, hs0, hsb, hd0, hd1⟩ : j ≤ l.length ∧ j ≤ 12 ∧ s.length = j + 1 ∧ SI s ∧ s[0]? = some a ∧ (∀ x ∈ s, a ≤ x ∧ x ≤ d) ∧ a ≤ d ∧ d ≤ a + 40 * j := hj
  dsimp only [List.cons_append, List.nil_append]
  refine Ps.seq ?_
  refine Ps.region rfl ?_
  refine Rs.binB rfl rfl rfl rfl rfl rfl ?_
  refine Rs.nil ?_
  refine Ps.thn ?_
  refine Ps.seq ?_
  refine Ps.if rfl (fun hc => ?_) (fun hc => ?_)
  · try (first | replace hc := D1 hc | replace hc := D2 hc | replace hc := D3 hc | replace hc := D4 hc | replace hc := D5 hc | replace hc := D6 hc | replace hc := D7 hc | replace hc := D8 hc | replace hc := D9 hc | replace hc := D10 hc)
    refine Ps.skip ?_
    refine Ps.thn ?_
    refine Ps.seq ?_
    refine Ps.block ?_
    refine Ps.seq ?_
    have hlt : j < l.length := by simp at hc; omega
    obtain ⟨x, hx⟩ := at_lt hlt
    have hw1 := hw x (List.mem_of_getElem? hx)
    refine Ps.region rfl ?_
    refine Rs.move rfl rfl ?_
    first | refine Rs.indexD (lc := [_]) rfl rfl rfl rfl rfl rfl (map_at hx) rfl ?_ | refine Rs.indexS (lc := [_]) rfl rfl rfl rfl rfl (by assumption) rfl (map_at hx) rfl ?_
    first | refine Rs.loadR rfl rfl rfl rfl ?_ | refine Rs.loadP 0 rfl rfl rfl rfl rfl ?_ | refine Rs.loadP 1 rfl rfl rfl rfl rfl ?_ | refine Rs.loadP 2 rfl rfl rfl rfl rfl ?_ | refine Rs.loadP 3 rfl rfl rfl rfl rfl ?_
    refine Rs.assign rfl rfl ?_
    refine Rs.assign rfl rfl ?_
    refine Rs.nil ?_
    refine Ps.thn ?_
    refine Ps.seq ?_
    refine Ps.seq ?_
    refine Ps.region rfl ?_
    refine Rs.move rfl rfl ?_
    refine Rs.binB rfl rfl rfl rfl rfl rfl ?_
    refine Rs.nil ?_
    refine Ps.thn ?_
    refine Ps.if rfl (fun hc => ?_) (fun hc => ?_)
    · try (first | replace hc := D1 hc | replace hc := D2 hc | replace hc := D3 hc | replace hc := D4 hc | replace hc := D5 hc | replace hc := D6 hc | replace hc := D7 hc | replace hc := D8 hc | replace hc := D9 hc | replace hc := D10 hc)
      refine Ps.exit ?_
      refine Ps.thn_exit ?_
      refine Ps.blk_there rfl ?_
      refine Ps.thn_exit ?_
      refine Ps.rnd_exit ?_
      refine Ps.blk_here ?_
      refine Ps.thn ?_
      refine Ps.seq ?_
      refine Ps.region rfl ?_
      refine Rs.move rfl rfl ?_
      refine Rs.add rfl rfl rfl (by first | exact W_i32 (by omega) (by omega) | rfl) ?_
      first | refine Rs.fieldAddrD (off' := 1) rfl rfl rfl rfl ?_ | refine Rs.fieldAddrP (off' := 1) rfl rfl rfl rfl ?_
      first | refine Rs.store0 (l' := [.agg [_, _]]) rfl rfl rfl (by first | rfl | exact storeB_ag rfl rfl rfl (by simp [scalars, sc_int, sc_str, sc_bool, sc_nil, sc_dsl, sc_own, sc_g, sc_f, *]) | exact storeB_fld rfl (by first | assumption | exact cl_g | exact cl_f) (by first | assumption | exact sc_g | exact sc_f) rfl) ?_ | refine Rs.store1 (l' := [.agg [_, _]]) rfl rfl rfl (by first | rfl | exact storeB_ag rfl rfl rfl (by simp [scalars, sc_int, sc_str, sc_bool, sc_nil, sc_dsl, sc_own, sc_g, sc_f, *]) | exact storeB_fld rfl (by first | assumption | exact cl_g | exact cl_f) (by first | assumption | exact sc_g | exact sc_f) rfl) ?_ | refine Rs.store2 (l' := [.agg [_, _]]) rfl rfl rfl (by first | rfl | exact storeB_ag rfl rfl rfl (by simp [scalars, sc_int, sc_str, sc_bool, sc_nil, sc_dsl, sc_own, sc_g, sc_f, *]) | exact storeB_fld rfl (by first | assumption | exact cl_g | exact cl_f) (by first | assumption | exact sc_g | exact sc_f) rfl) ?_ | refine Rs.store3 (l' := [.agg [_, _]]) rfl rfl rfl (by first | rfl | exact storeB_ag rfl rfl rfl (by simp [scalars, sc_int, sc_str, sc_bool, sc_nil, sc_dsl, sc_own, sc_g, sc_f, *]) | exact storeB_fld rfl (by first | assumption | exact cl_g | exact cl_f) (by first | assumption | exact sc_g | exact sc_f) rfl) ?_
      refine Rs.nil ?_
      refine Ps.thn ?_
      refine Ps.seq ?_
      refine Ps.region rfl ?_
      first | refine Rs.loadR (p := .agg [_, _]) rfl rfl rfl rfl ?_ | refine Rs.loadP (p := .agg [_, _]) 0 rfl rfl rfl rfl rfl ?_ | refine Rs.loadP (p := .agg [_, _]) 1 rfl rfl rfl rfl rfl ?_ | refine Rs.loadP (p := .agg [_, _]) 2 rfl rfl rfl rfl rfl ?_ | refine Rs.loadP (p := .agg [_, _]) 3 rfl rfl rfl rfl rfl ?_
      refine Rs.store1 (l' := [.agg [fP 1 b (s.map i32P), i32P (d + 31)]]) rfl rfl rfl (by cases b <;> rfl) ?_
      refine Rs.nil ?_
      refine Ps.thn ?_
      refine Ps.ret ?_
      -- leaf 1 (ret)
      refine Ps.finX (l := [_]) rfl (by (first | refine ResR.cell (p := .agg [_, _]) 0 rfl rfl rfl ?_ | refine ResR.cell (p := .agg [_, _]) 1 rfl rfl rfl ?_ | refine ResR.cell (p := .agg [_, _]) 2 rfl rfl rfl ?_ | refine ResR.cell (p := .agg [_, _]) 3 rfl rfl rfl ?_); exact ResR.nil) (fun H hH => ?_)
      obtain ⟨q, hq, hd⟩ := Dp.f (s := 1) (a := b) (l := s.map i32P) hH (fun x hx => by simp [hx]) (by intro p hp; obtain ⟨x, _, rfl⟩ := List.mem_map.1 hp; rfl) (by simp; omega)
      refine ⟨_, (Dp.agg (DpL.cons hd (DpL.cons (Dp.plain 95000 rfl rfl) DpL.nil)) (m := 96000) rfl).top rfl, s, d + 31, q, ⟨hsi, by omega, hs0, fun x hx => ?_, by omega⟩, hq, rfl⟩
      have := hsb x hx
      omega
    · try (first | replace hc := D1 hc | replace hc := D2 hc | replace hc := D3 hc | replace hc := D4 hc | replace hc := D5 hc | replace hc := D6 hc | replace hc := D7 hc | replace hc := D8 hc | replace hc := D9 hc | replace hc := D10 hc)
      refine Ps.skip ?_
      refine Ps.thn ?_
      refine Ps.seq ?_
      refine Ps.region rfl ?_
      refine Rs.move rfl rfl ?_
      refine Rs.move rfl rfl ?_
      refine Rs.rem rfl rfl rfl (by omega) (by first | exact Int.tmod_eq_emod_of_nonneg (by omega) | rfl) ?_
      refine Rs.convI rfl rfl ⟨_, rfl⟩ rfl rfl (by first | exact W_i32 (by omega) (by omega) | rfl) ?_
      refine Rs.add rfl rfl rfl (by first | exact W_i32 (by omega) (by omega) | rfl) ?_
      refine Rs.add rfl rfl rfl (by first | exact W_i32 (by omega) (by omega) | rfl) ?_
      refine Rs.assign rfl rfl ?_
      refine Rs.nil ?_
      refine Ps.thn ?_
      refine Ps.region rfl ?_
      first | refine Rs.fieldAddrD (off' := 0) rfl rfl rfl rfl ?_ | refine Rs.fieldAddrP (off' := 0) rfl rfl rfl rfl ?_
      first | refine Rs.loadR rfl rfl rfl rfl ?_ | refine Rs.loadP 0 rfl rfl rfl rfl rfl ?_ | refine Rs.loadP 1 rfl rfl rfl rfl rfl ?_ | refine Rs.loadP 2 rfl rfl rfl rfl rfl ?_ | refine Rs.loadP 3 rfl rfl rfl rfl rfl ?_
      refine Rs.move rfl rfl ?_
      refine Rs.buildSlice (l := [_]) rfl rfl rfl rfl (by first | rfl | simp [deepL, deepB, *]) ?_
      refine Rs.appendF2 1 4 rfl rfl ⟨_, rfl⟩ rfl rfl rfl rfl rfl rfl rfl rfl rfl rfl rfl rfl (by simp; omega) (fun id v => ?_)
      first | refine Rs.fieldAddrD (off' := 0) rfl rfl rfl rfl ?_ | refine Rs.fieldAddrP (off' := 0) rfl rfl rfl rfl ?_
      first | refine Rs.store0 (l' := [.agg [_, _]]) rfl rfl rfl (by first | rfl | exact storeB_ag rfl rfl rfl (by simp [scalars, sc_int, sc_str, sc_bool, sc_nil, sc_dsl, sc_own, sc_g, sc_f, *]) | exact storeB_fld rfl (by first | assumption | exact cl_g | exact cl_f) (by first | assumption | exact sc_g | exact sc_f) rfl) ?_ | refine Rs.store1 (l' := [.agg [_, _]]) rfl rfl rfl (by first | rfl | exact storeB_ag rfl rfl rfl (by simp [scalars, sc_int, sc_str, sc_bool, sc_nil, sc_dsl, sc_own, sc_g, sc_f, *]) | exact storeB_fld rfl (by first | assumption | exact cl_g | exact cl_f) (by first | assumption | exact sc_g | exact sc_f) rfl) ?_ | refine Rs.store2 (l' := [.agg [_, _]]) rfl rfl rfl (by first | rfl | exact storeB_ag rfl rfl rfl (by simp [scalars, sc_int, sc_str, sc_bool, sc_nil, sc_dsl, sc_own, sc_g, sc_f, *]) | exact storeB_fld rfl (by first | assumption | exact cl_g | exact cl_f) (by first | assumption | exact sc_g | exact sc_f) rfl) ?_ | refine Rs.store3 (l' := [.agg [_, _]]) rfl rfl rfl (by first | rfl | exact storeB_ag rfl rfl rfl (by simp [scalars, sc_int, sc_str, sc_bool, sc_nil, sc_dsl, sc_own, sc_g, sc_f, *]) | exact storeB_fld rfl (by first | assumption | exact cl_g | exact cl_f) (by first | assumption | exact sc_g | exact sc_f) rfl) ?_
      refine Rs.nil ?_
      refine Ps.blk ?_
      refine Ps.thn ?_
      refine Ps.region rfl ?_
      refine Rs.add rfl rfl rfl (by first | exact W_i64s (by omega) | exact W_i64 (by omega) (by omega) | rfl) ?_
      refine Rs.move rfl rfl ?_
      refine Rs.nil ?_
      -- leaf 2 (round1)
      have hs' : s ≠ [] := by intro e; subst e; simp at hsl
      rw [show List.map i32P s ++ [PV.lit (Value.int IntKind.i32 (d + (1 + x % 40)))] = List.map i32P (s ++ [d + (1 + x % 40)]) by simp]
      refine Ps.round (j + 1, s ++ [d + (1 + x % 40)], d + (1 + x % 40), some (id, v)) ⟨hlt, ?_, by simp [hsl], ?_, ?_, ?_, ?_, ?_⟩ (by show l.length - (j + 1) < l.length - j; omega) ⟨rfl, rfl, trivial⟩ (by repeat' first | exact HasL.nil | refine HasL.cons rfl ?_) (List.Sublist.refl _)
      · show j + 1 ≤ 12; omega
      · refine List.pairwise_append.2 ⟨hsi, List.pairwise_singleton _ _, fun z hz w hw => ?_⟩
        rw [List.mem_singleton.1 hw]
        have := hsb z hz
        omega
      · show (s ++ [d + (1 + x % 40)])[0]? = some a
        rw [List.getElem?_append_left (by omega)]
        exact hs0
      · intro z hz
        show a ≤ z ∧ z ≤ d + (1 + x % 40)
        rcases List.mem_append.1 hz with hz | hz
        · have := hsb z hz; omega
        · rw [List.mem_singleton.1 hz]; omega
      · show a ≤ d + (1 + x % 40); omega
      · show d + (1 + x % 40) ≤ a + 40 * ((j + 1 : Nat) : Int); omega
  · try (first | replace hc := D1 hc | replace hc := D2 hc | replace hc := D3 hc | replace hc := D4 hc | replace hc := D5 hc | replace hc := D6 hc | replace hc := D7 hc | replace hc := D8 hc | replace hc := D9 hc | replace hc := D10 hc)
    refine Ps.exit ?_
    refine Ps.thn_exit ?_
    refine Ps.rnd_exit ?_
    refine Ps.blk_here ?_
    refine Ps.thn ?_
    refine Ps.seq ?_
    refine Ps.region rfl ?_
    refine Rs.move rfl rfl ?_
    refine Rs.add rfl rfl rfl (by first | exact W_i32 (by omega) (by omega) | rfl) ?_
    first | refine Rs.fieldAddrD (off' := 1) rfl rfl rfl rfl ?_ | refine Rs.fieldAddrP (off' := 1) rfl rfl rfl rfl ?_
    first | refine Rs.store0 (l' := [.agg [_, _]]) rfl rfl rfl (by first | rfl | exact storeB_ag rfl rfl rfl (by simp [scalars, sc_int, sc_str, sc_bool, sc_nil, sc_dsl, sc_own, sc_g, sc_f, *]) | exact storeB_fld rfl (by first | assumption | exact cl_g | exact cl_f) (by first | assumption | exact sc_g | exact sc_f) rfl) ?_ | refine Rs.store1 (l' := [.agg [_, _]]) rfl rfl rfl (by first | rfl | exact storeB_ag rfl rfl rfl (by simp [scalars, sc_int, sc_str, sc_bool, sc_nil, sc_dsl, sc_own, sc_g, sc_f, *]) | exact storeB_fld rfl (by first | assumption | exact cl_g | exact cl_f) (by first | assumption | exact sc_g | exact sc_f) rfl) ?_ | refine Rs.store2 (l' := [.agg [_, _]]) rfl rfl rfl (by first | rfl | exact storeB_ag rfl rfl rfl (by simp [scalars, sc_int, sc_str, sc_bool, sc_nil, sc_dsl, sc_own, sc_g, sc_f, *]) | exact storeB_fld rfl (by first | assumption | exact cl_g | exact cl_f) (by first | assumption | exact sc_g | exact sc_f) rfl) ?_ | refine Rs.store3 (l' := [.agg [_, _]]) rfl rfl rfl (by first | rfl | exact storeB_ag rfl rfl rfl (by simp [scalars, sc_int, sc_str, sc_bool, sc_nil, sc_dsl, sc_own, sc_g, sc_f, *]) | exact storeB_fld rfl (by first | assumption | exact cl_g | exact cl_f) (by first | assumption | exact sc_g | exact sc_f) rfl) ?_
    refine Rs.nil ?_
    refine Ps.thn ?_
    refine Ps.seq ?_
    refine Ps.region rfl ?_
    first | refine Rs.loadR (p := .agg [_, _]) rfl rfl rfl rfl ?_ | refine Rs.loadP (p := .agg [_, _]) 0 rfl rfl rfl rfl rfl ?_ | refine Rs.loadP (p := .agg [_, _]) 1 rfl rfl rfl rfl rfl ?_ | refine Rs.loadP (p := .agg [_, _]) 2 rfl rfl rfl rfl rfl ?_ | refine Rs.loadP (p := .agg [_, _]) 3 rfl rfl rfl rfl rfl ?_
    refine Rs.store1 (l' := [.agg [fP 1 b (s.map i32P), i32P (d + 31)]]) rfl rfl rfl (by cases b <;> rfl) ?_
    refine Rs.nil ?_
    refine Ps.thn ?_
    refine Ps.ret ?_
    -- leaf 3 (ret)
    refine Ps.finX (l := [_]) rfl (by (first | refine ResR.cell (p := .agg [_, _]) 0 rfl rfl rfl ?_ | refine ResR.cell (p := .agg [_, _]) 1 rfl rfl rfl ?_ | refine ResR.cell (p := .agg [_, _]) 2 rfl rfl rfl ?_ | refine ResR.cell (p := .agg [_, _]) 3 rfl rfl rfl ?_); exact ResR.nil) (fun H hH => ?_)
    obtain ⟨q, hq, hd⟩ := Dp.f (s := 1) (a := b) (l := s.map i32P) hH (fun x hx => by simp [hx]) (by intro p hp; obtain ⟨x, _, rfl⟩ := List.mem_map.1 hp; rfl) (by simp; omega)
    refine ⟨_, (Dp.agg (DpL.cons hd (DpL.cons (Dp.plain 95000 rfl rfl) DpL.nil)) (m := 96000) rfl).top rfl, s, d + 31, q, ⟨hsi, by omega, hs0, fun x hx => ?_, by omega⟩, hq, rfl⟩
    have := hsb x hx
    omega
end Go.Proofs.YtddaogebacigbaaGreatDoor.RV.T
