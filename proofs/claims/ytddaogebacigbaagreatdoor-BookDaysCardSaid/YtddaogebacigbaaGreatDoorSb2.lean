/- A part of the symbolic runs of functions by the evaluator (TB2). Conditions: none. -/
import Derived.Test.YtddaogebacigbaaGreatDoorSb1
import Derived.Test.YtddaogebacigbaaGreatDoorSvK
import Derived.Test.YtddaogebacigbaaGreatDoorSvS
open Go Go.Proofs.YtddaogebacigbaaGreatDoor.RV Go.Proofs.YtddaogebacigbaaGreatDoor.XA.Awk Go.Proofs.YtddaogebacigbaaGreatDoor.RV.ChartMath Go.Proofs
namespace Go.Proofs.YtddaogebacigbaaGreatDoor.RV.T
set_option maxRecDepth 100000
set_option linter.unusedVariables false
set_option linter.unusedSimpArgs false
structure Src where
  code : Int
  kind : Int
  parent : Int
  name : Int
def srcP (x : Src) : PV := .agg [u8P x.code, u8P x.kind, u8P x.parent, u8P x.name]
def SrcOk (x : Src) : Prop := (0 ≤ x.code ∧ x.code ≤ 255) ∧ (0 ≤ x.kind ∧ x.kind ≤ 255) ∧ (0 ≤ x.parent ∧ x.parent ≤ 255) ∧ 0 ≤ x.name ∧ x.name ≤ 255
theorem make06_ok (l : List Src) (p : PV) (hp : IsSl 4 (l.map srcP) p) (hl : l.length < 1000000) (hw : ∀ x ∈ l, SrcOk x) : Fn cfg 49 [p] (fun q => ∃ c, Made c ∧ (l.length ≤ c.length ∨ 40 ≤ c.length) ∧ q = slP 4 (c.map accP)) := by
  refine Fn.go Tryz.func49 (L := [(0, _)]) rfl rfl rfl (by simp [deepL, hp.deep, deepB]) rfl ?_
  refine Ps.seq ?_
  refine Ps.region rfl ?_
  refine Rs.assign (p := .lit _) rfl rfl ?_
  refine Rs.nil ?_
  refine Ps.thn ?_
  refine Ps.seq ?_
  refine Ps.region rfl ?_
  refine Rs.assign (p := .lit _) rfl rfl ?_
  refine Rs.nil ?_
  refine Ps.thn ?_
  refine Ps.seq ?_
  refine Ps.region rfl ?_
  refine Rs.assign (p := .lit _) rfl rfl ?_
  refine Rs.nil ?_
  refine Ps.thn ?_
  refine Ps.seq ?_
  refine Ps.seq ?_
  refine Ps.region rfl ?_
  refine Rs.move rfl rfl ?_
  first | refine Rs.lenD rfl rfl rfl rfl ?_ | refine Rs.lenO rfl rfl rfl rfl ?_ | refine Rs.lenI rfl rfl rfl rfl ?_ | refine Rs.lenA rfl rfl rfl rfl (by assumption) ?_ | refine Rs.lenS rfl rfl rfl rfl (by assumption) ?_
  refine Rs.move (p := .lit _) rfl rfl ?_
  refine Rs.nil ?_
  refine Ps.thn ?_
  refine Ps.block ?_
  -- loop 1 writes [3, 4, 5, 6, 7, 8, 11, 12, 13, 14, 15, 16, 17, 18, 19, 20, 21, 22, 23, 24, 25, 26, 27, 28, 29, 30, 31, 32, 33, 34, 35, 36, 37, 38, 39, 40, 41, 42, 43, 44, 45, 46, 47, 48, 49, 50, 51, 52, 53, 54, 55, 56, 57, 58, 59, 60, 61, 62, 63, 64, 65, 66]
  refine Ps.loop (J := Nat × List Acc × Int × Option (Nat × Nat)) ⟨fun j => j.1 ≤ l.length ∧ j.1 ≤ 40 ∧ j.2.1.length = j.1 ∧ Made j.2.1 ∧ 0 ≤ j.2.2.1 ∧ j.2.2.1 ≤ 4 * j.1 ∧ (∀ a ∈ j.2.1, a.code ≤ j.2.2.1) ∧ (j.2.2.2 = none ↔ j.2.1.map accP = []), fun j => [(3, gP 4 j.2.2.2 (j.2.1.map accP)), (4, u32P j.2.2.1), (11, i64P j.1)], fun j => gM 4 j.2.2.2 (j.2.1.map accP) ++ [], fun j => l.length - j.1⟩ [3, 4, 5, 6, 7, 8, 11, 12, 13, 14, 15, 16, 17, 18, 19, 20, 21, 22, 23, 24, 25, 26, 27, 28, 29, 30, 31, 32, 33, 34, 35, 36, 37, 38, 39, 40, 41, 42, 43, 44, 45, 46, 47, 48, 49, 50, 51, 52, 53, 54, 55, 56, 57, 58, 59, 60, 61, 62, 63, 64, 65, 66] [(10, _), (9, _), (2, _), (0, _)] (0, [], 0, none) rfl ⟨Nat.zero_le _, by decide, rfl, Made.nil, by decide, by decide, by simp, by simp⟩ ⟨rfl, rfl, rfl, trivial⟩ (List.Sublist.refl _) (fun j hj => ?_)
  obtain ⟨j, c, code, a⟩ := j
  obtain ⟨hj, h40, hcl, hM, hc0, hc1, hca, ha⟩ : j ≤ l.length ∧ j ≤ 40 ∧ c.length = j ∧ Made c ∧ 0 ≤ code ∧ code ≤ 4 * j ∧ (∀ a ∈ c, a.code ≤ code) ∧ (a = none ↔ c.map accP = []) := hj
  dsimp only [List.cons_append, List.nil_append]
  refine Ps.seq ?_
  refine Ps.region rfl ?_
  refine Rs.binB rfl rfl rfl rfl rfl rfl ?_
  refine Rs.nil ?_
  refine Ps.thn ?_
  refine Ps.seq ?_
  refine Ps.if rfl (fun hc => ?_) (fun hc => ?_)
  · try (first | replace hc := D1 hc | replace hc := D2 hc | replace hc := D3 hc | replace hc := D4 hc | replace hc := D5 hc | replace hc := D6 hc | replace hc := D7 hc | replace hc := D8 hc | replace hc := D9 hc | replace hc := D10 hc)
    refine Ps.skip ?_
    refine Ps.thn ?_
    refine Ps.seq ?_
    refine Ps.block ?_
    refine Ps.seq ?_
    have hlt : j < l.length := by simp at hc; omega
    obtain ⟨x, hx⟩ := at_lt hlt
    obtain ⟨hw1, hw2, hw3, hw4⟩ := hw x (List.mem_of_getElem? hx)
    refine Ps.region rfl ?_
    refine Rs.move rfl rfl ?_
    first | refine Rs.indexD (lc := [_, _, _, _]) rfl rfl rfl rfl rfl rfl (map_at hx) rfl ?_ | refine Rs.indexS (lc := [_, _, _, _]) rfl rfl rfl rfl rfl (by assumption) rfl (map_at hx) rfl ?_
    first | refine Rs.loadR (p := .agg [_, _, _, _]) rfl rfl rfl rfl ?_ | refine Rs.loadP (p := .agg [_, _, _, _]) 0 rfl rfl rfl rfl rfl ?_ | refine Rs.loadP (p := .agg [_, _, _, _]) 1 rfl rfl rfl rfl rfl ?_ | refine Rs.loadP (p := .agg [_, _, _, _]) 2 rfl rfl rfl rfl rfl ?_ | refine Rs.loadP (p := .agg [_, _, _, _]) 3 rfl rfl rfl rfl rfl ?_
    refine Rs.alloc (z := .agg [_, _, _, _]) (c := 4) rfl rfl rfl (fun g6 => ?_)
    refine Rs.assign rfl rfl ?_
    first | refine Rs.store0 (l' := [.agg [_, _, _, _]]) rfl rfl rfl (by first | rfl | exact storeB_ag rfl rfl rfl (by simp [scalars, sc_int, sc_str, sc_bool, sc_nil, sc_dsl, sc_own, sc_g, sc_f, *]) | exact storeB_fld rfl (by first | assumption | exact cl_g | exact cl_f) (by first | assumption | exact sc_g | exact sc_f) rfl) ?_ | refine Rs.store1 (l' := [.agg [_, _, _, _]]) rfl rfl rfl (by first | rfl | exact storeB_ag rfl rfl rfl (by simp [scalars, sc_int, sc_str, sc_bool, sc_nil, sc_dsl, sc_own, sc_g, sc_f, *]) | exact storeB_fld rfl (by first | assumption | exact cl_g | exact cl_f) (by first | assumption | exact sc_g | exact sc_f) rfl) ?_ | refine Rs.store2 (l' := [.agg [_, _, _, _]]) rfl rfl rfl (by first | rfl | exact storeB_ag rfl rfl rfl (by simp [scalars, sc_int, sc_str, sc_bool, sc_nil, sc_dsl, sc_own, sc_g, sc_f, *]) | exact storeB_fld rfl (by first | assumption | exact cl_g | exact cl_f) (by first | assumption | exact sc_g | exact sc_f) rfl) ?_ | refine Rs.store3 (l' := [.agg [_, _, _, _]]) rfl rfl rfl (by first | rfl | exact storeB_ag rfl rfl rfl (by simp [scalars, sc_int, sc_str, sc_bool, sc_nil, sc_dsl, sc_own, sc_g, sc_f, *]) | exact storeB_fld rfl (by first | assumption | exact cl_g | exact cl_f) (by first | assumption | exact sc_g | exact sc_f) rfl) ?_
    refine Rs.nil ?_
    refine Ps.thn ?_
    refine Ps.seq ?_
    refine Ps.seq ?_
    refine Ps.region rfl ?_
    refine Rs.move rfl rfl ?_
    refine Rs.binB rfl rfl rfl rfl rfl rfl ?_
    refine Rs.nil ?_
    refine Ps.thn ?_
    refine Ps.if rfl (fun hc => ?_) (fun hc => ?_)
    · try (first | replace hc := D1 hc | replace hc := D2 hc | replace hc := D3 hc | replace hc := D4 hc | replace hc := D5 hc | replace hc := D6 hc | replace hc := D7 hc | replace hc := D8 hc | replace hc := D9 hc | replace hc := D10 hc)
      refine Ps.exit ?_
      refine Ps.thn_exit ?_
      refine Ps.blk_there rfl ?_
      refine Ps.thn_exit ?_
      refine Ps.rnd_exit ?_
      refine Ps.blk_here ?_
      refine Ps.thn ?_
      refine Ps.seq ?_
      refine Ps.region rfl ?_
      refine Rs.move rfl rfl ?_
      refine Rs.assign rfl rfl ?_
      refine Rs.nil ?_
      refine Ps.thn ?_
      refine Ps.ret ?_
      -- leaf 1 (ret)
      refine Ps.finG (a := a) rfl (.tmp rfl .nil) ha (by repeat' first | exact List.Sublist.refl _ | exact List.nil_sublist _ | exact List.sublist_append_left _ _ | refine List.Sublist.cons₂ _ ?_ | refine List.Sublist.cons _ ?_) (by intro q hq; obtain ⟨z, _, rfl⟩ := List.mem_map.1 hq; rfl) (by simp; omega) ⟨c, hM, (by first | omega | (simp at hc; omega) | (simp at hg; omega)), rfl⟩
    · try (first | replace hc := D1 hc | replace hc := D2 hc | replace hc := D3 hc | replace hc := D4 hc | replace hc := D5 hc | replace hc := D6 hc | replace hc := D7 hc | replace hc := D8 hc | replace hc := D9 hc | replace hc := D10 hc)
      refine Ps.skip ?_
      refine Ps.thn ?_
      refine Ps.seq ?_
      refine Ps.region rfl ?_
      refine Rs.move rfl rfl ?_
      first | refine Rs.fieldAddrD (off' := 0) rfl rfl rfl rfl ?_ | refine Rs.fieldAddrP (off' := 0) rfl rfl rfl rfl ?_
      first | refine Rs.loadR rfl rfl rfl rfl ?_ | refine Rs.loadP 0 rfl rfl rfl rfl rfl ?_ | refine Rs.loadP 1 rfl rfl rfl rfl rfl ?_ | refine Rs.loadP 2 rfl rfl rfl rfl rfl ?_ | refine Rs.loadP 3 rfl rfl rfl rfl rfl ?_
      refine Rs.rem rfl rfl rfl (by omega) (by first | exact Int.tmod_eq_emod_of_nonneg (by omega) | rfl) ?_
      refine Rs.convI rfl rfl ⟨_, rfl⟩ rfl rfl (by first | exact W_u32 (by omega) (by omega) | rfl) ?_
      refine Rs.add rfl rfl rfl (by first | exact W_u32 (by omega) (by omega) | rfl) ?_
      refine Rs.add rfl rfl rfl (by first | exact W_u32 (by omega) (by omega) | rfl) ?_
      refine Rs.assign rfl rfl ?_
      refine Rs.nil ?_
      refine Ps.thn ?_
      refine Ps.seq ?_
      refine Ps.region rfl ?_
      refine Rs.move rfl rfl ?_
      first | refine Rs.fieldAddrD (off' := 3) rfl rfl rfl rfl ?_ | refine Rs.fieldAddrP (off' := 3) rfl rfl rfl rfl ?_
      first | refine Rs.loadR rfl rfl rfl rfl ?_ | refine Rs.loadP 0 rfl rfl rfl rfl rfl ?_ | refine Rs.loadP 1 rfl rfl rfl rfl rfl ?_ | refine Rs.loadP 2 rfl rfl rfl rfl rfl ?_ | refine Rs.loadP 3 rfl rfl rfl rfl rfl ?_
      refine Rs.call0 rfl rfl rfl (name_ok _ (by omega)) (fun p28 hp => ?_)
      obtain rfl := hp
      first | refine Rs.fieldAddrD (off' := 1) rfl rfl rfl rfl ?_ | refine Rs.fieldAddrP (off' := 1) rfl rfl rfl rfl ?_
      first | refine Rs.loadR rfl rfl rfl rfl ?_ | refine Rs.loadP 0 rfl rfl rfl rfl rfl ?_ | refine Rs.loadP 1 rfl rfl rfl rfl rfl ?_ | refine Rs.loadP 2 rfl rfl rfl rfl rfl ?_ | refine Rs.loadP 3 rfl rfl rfl rfl rfl ?_
      refine Rs.rem rfl rfl rfl (by omega) (by first | exact Int.tmod_eq_emod_of_nonneg (by omega) | rfl) ?_
      refine Rs.buildB (cs := [(0, [_]), (1, [_]), (2, [_])]) (l := [_, _, _, _]) rfl rfl (by first | rfl | simp only [cellsOf]; rfl) rfl ?_
      refine Rs.alloc (z := .agg [_, _, _, _]) (c := 4) rfl rfl rfl (fun g7 => ?_)
      first | refine Rs.store0 (l' := [.agg [_, _, _, _]]) rfl rfl rfl (by first | rfl | exact storeB_ag rfl rfl rfl (by simp [scalars, sc_int, sc_str, sc_bool, sc_nil, sc_dsl, sc_own, sc_g, sc_f, *]) | exact storeB_fld rfl (by first | assumption | exact cl_g | exact cl_f) (by first | assumption | exact sc_g | exact sc_f) rfl) ?_ | refine Rs.store1 (l' := [.agg [_, _, _, _]]) rfl rfl rfl (by first | rfl | exact storeB_ag rfl rfl rfl (by simp [scalars, sc_int, sc_str, sc_bool, sc_nil, sc_dsl, sc_own, sc_g, sc_f, *]) | exact storeB_fld rfl (by first | assumption | exact cl_g | exact cl_f) (by first | assumption | exact sc_g | exact sc_f) rfl) ?_ | refine Rs.store2 (l' := [.agg [_, _, _, _]]) rfl rfl rfl (by first | rfl | exact storeB_ag rfl rfl rfl (by simp [scalars, sc_int, sc_str, sc_bool, sc_nil, sc_dsl, sc_own, sc_g, sc_f, *]) | exact storeB_fld rfl (by first | assumption | exact cl_g | exact cl_f) (by first | assumption | exact sc_g | exact sc_f) rfl) ?_ | refine Rs.store3 (l' := [.agg [_, _, _, _]]) rfl rfl rfl (by first | rfl | exact storeB_ag rfl rfl rfl (by simp [scalars, sc_int, sc_str, sc_bool, sc_nil, sc_dsl, sc_own, sc_g, sc_f, *]) | exact storeB_fld rfl (by first | assumption | exact cl_g | exact cl_f) (by first | assumption | exact sc_g | exact sc_f) rfl) ?_
      refine Rs.nil ?_
      refine Ps.thn ?_
      refine Ps.seq ?_
      refine Ps.seq ?_
      refine Ps.region rfl ?_
      refine Rs.move rfl rfl ?_
      first | refine Rs.lenD rfl rfl rfl rfl ?_ | refine Rs.lenO rfl rfl rfl rfl ?_ | refine Rs.lenI rfl rfl rfl rfl ?_ | refine Rs.lenA rfl rfl rfl rfl (by assumption) ?_ | refine Rs.lenS rfl rfl rfl rfl (by assumption) ?_
      refine Rs.binB rfl rfl rfl rfl rfl rfl ?_
      refine Rs.move rfl rfl ?_
      refine Rs.guard1 (w' := false) rfl rfl rfl (fun hg => ?_) (fun hg => ?_)
      · try (first | replace hg := D1 hg | replace hg := D2 hg | replace hg := D3 hg | replace hg := D4 hg | replace hg := D5 hg | replace hg := D6 hg | replace hg := D7 hg | replace hg := D8 hg | replace hg := D9 hg | replace hg := D10 hg)
        first | refine Rs.fieldAddrD (off' := 2) rfl rfl rfl rfl ?_ | refine Rs.fieldAddrP (off' := 2) rfl rfl rfl rfl ?_
        refine Rs.guardT rfl ?_
        first | refine Rs.loadR rfl rfl rfl rfl ?_ | refine Rs.loadP 0 rfl rfl rfl rfl rfl ?_ | refine Rs.loadP 1 rfl rfl rfl rfl rfl ?_ | refine Rs.loadP 2 rfl rfl rfl rfl rfl ?_ | refine Rs.loadP 3 rfl rfl rfl rfl rfl ?_
        refine Rs.guardT rfl ?_
        refine Rs.rem rfl rfl rfl (by omega) (by first | exact Int.tmod_eq_emod_of_nonneg (by omega) | rfl) ?_
        refine Rs.guardT rfl ?_
        refine Rs.binB rfl rfl rfl rfl rfl rfl ?_
        refine Rs.pickT (q := .lit _) rfl rfl rfl rfl ?_
        refine Rs.nil ?_
        refine Ps.thn ?_
        refine Ps.if rfl (fun hc => ?_) (fun hc => ?_)
        · try (first | replace hc := D1 hc | replace hc := D2 hc | replace hc := D3 hc | replace hc := D4 hc | replace hc := D5 hc | replace hc := D6 hc | replace hc := D7 hc | replace hc := D8 hc | replace hc := D9 hc | replace hc := D10 hc)
          refine Ps.seq ?_
          obtain ⟨⟨id, v⟩, rfl⟩ : ∃ iv, a = some iv := by
            cases a with
            | none => have := ha.1 rfl; simp at this; subst this; simp at hg
            | some iv => exact ⟨iv, rfl⟩
          have hcp : 0 < c.length := by simp at hg; omega
          obtain ⟨q, hq, hql⟩ : ∃ q : Nat, x.parent % ((c.map accP).length : Int) = (q : Int) ∧ q < c.length := by
            refine ⟨(x.parent % (c.length : Int)).toNat, ?_, ?_⟩
            · have := Int.emod_nonneg x.parent (show (c.length : Int) ≠ 0 by omega)
              simp; omega
            · have := Int.emod_lt_of_pos x.parent (show (0 : Int) < c.length by omega)
              have := Int.emod_nonneg x.parent (show (c.length : Int) ≠ 0 by omega)
              omega
          obtain ⟨y, hy⟩ := at_lt hql
          have hym := List.mem_of_getElem? hy
          refine Ps.region rfl ?_
          refine Rs.move rfl rfl ?_
          first | refine Rs.fieldAddrD (off' := 2) rfl rfl rfl rfl ?_ | refine Rs.fieldAddrP (off' := 2) rfl rfl rfl rfl ?_
          first | refine Rs.loadR rfl rfl rfl rfl ?_ | refine Rs.loadP 0 rfl rfl rfl rfl rfl ?_ | refine Rs.loadP 1 rfl rfl rfl rfl rfl ?_ | refine Rs.loadP 2 rfl rfl rfl rfl rfl ?_ | refine Rs.loadP 3 rfl rfl rfl rfl rfl ?_
          refine Rs.convI rfl rfl ⟨_, rfl⟩ rfl rfl (by first | exact W_i64 (by omega) (by omega) | rfl) ?_
          refine Rs.move rfl rfl ?_
          first | refine Rs.lenD rfl rfl rfl rfl ?_ | refine Rs.lenO rfl rfl rfl rfl ?_ | refine Rs.lenI rfl rfl rfl rfl ?_ | refine Rs.lenA rfl rfl rfl rfl (by assumption) ?_ | refine Rs.lenS rfl rfl rfl rfl (by assumption) ?_
          refine Rs.rem rfl rfl rfl (by omega) (by first | exact Int.tmod_eq_emod_of_nonneg (by omega) | rfl) ?_
          refine Rs.indexO rfl rfl rfl rfl rfl hq (by simpa using hql) ?_
          first | refine Rs.loadP (p := accP y) 0 rfl rfl rfl rfl (by unfold partE; rw [Nat.zero_add, map_at hy]; rfl) ?_ | refine Rs.loadP (p := accP y) 1 rfl rfl rfl rfl (by unfold partE; rw [Nat.zero_add, map_at hy]; rfl) ?_ | refine Rs.loadP (p := accP y) 2 rfl rfl rfl rfl (by unfold partE; rw [Nat.zero_add, map_at hy]; rfl) ?_
          refine Rs.alloc (z := .agg [_, _, _, _]) (c := 4) rfl rfl rfl (fun g8 => ?_)
          first | refine Rs.store0 (l' := [.agg [_, _, _, _]]) rfl rfl rfl (by first | rfl | exact storeB_ag rfl rfl rfl (by simp [scalars, sc_int, sc_str, sc_bool, sc_nil, sc_dsl, sc_own, sc_g, sc_f, *]) | exact storeB_fld rfl (by first | assumption | exact cl_g | exact cl_f) (by first | assumption | exact sc_g | exact sc_f) rfl) ?_ | refine Rs.store1 (l' := [.agg [_, _, _, _]]) rfl rfl rfl (by first | rfl | exact storeB_ag rfl rfl rfl (by simp [scalars, sc_int, sc_str, sc_bool, sc_nil, sc_dsl, sc_own, sc_g, sc_f, *]) | exact storeB_fld rfl (by first | assumption | exact cl_g | exact cl_f) (by first | assumption | exact sc_g | exact sc_f) rfl) ?_ | refine Rs.store2 (l' := [.agg [_, _, _, _]]) rfl rfl rfl (by first | rfl | exact storeB_ag rfl rfl rfl (by simp [scalars, sc_int, sc_str, sc_bool, sc_nil, sc_dsl, sc_own, sc_g, sc_f, *]) | exact storeB_fld rfl (by first | assumption | exact cl_g | exact cl_f) (by first | assumption | exact sc_g | exact sc_f) rfl) ?_ | refine Rs.store3 (l' := [.agg [_, _, _, _]]) rfl rfl rfl (by first | rfl | exact storeB_ag rfl rfl rfl (by simp [scalars, sc_int, sc_str, sc_bool, sc_nil, sc_dsl, sc_own, sc_g, sc_f, *]) | exact storeB_fld rfl (by first | assumption | exact cl_g | exact cl_f) (by first | assumption | exact sc_g | exact sc_f) rfl) ?_
          refine Rs.nil ?_
          refine Ps.thn ?_
          refine Ps.seq ?_
          refine Ps.region rfl ?_
          refine Rs.move rfl rfl ?_
          first | refine Rs.fieldAddrD (off' := 0) rfl rfl rfl rfl ?_ | refine Rs.fieldAddrP (off' := 0) rfl rfl rfl rfl ?_
          first | refine Rs.loadR rfl rfl rfl rfl ?_ | refine Rs.loadP 0 rfl rfl rfl rfl rfl ?_ | refine Rs.loadP 1 rfl rfl rfl rfl rfl ?_ | refine Rs.loadP 2 rfl rfl rfl rfl rfl ?_ | refine Rs.loadP 3 rfl rfl rfl rfl rfl ?_
          refine Rs.call1 rfl rfl rfl (fun H hH => DpL.top (n := 95000) (by repeat' first | exact DpL.nil | refine DpL.cons (Dp.plain 95000 rfl rfl) ?_ | refine DpL.cons (Dp.sl 95000 (by assumption)) ?_ | refine DpL.cons (Dp.g (by assumption) hH (fun x hx => by simp [hx]) (by intro p hp; obtain ⟨x, _, rfl⟩ := List.mem_map.1 hp; rfl) (by simp; omega)) ?_) rfl) (deep_ok c _ _ (slP_is _ _) (by omega)) (by first | (intro p hp; rw [hp]; rfl) | (rintro p ⟨r, rfl, _⟩; rfl)) (fun p54 hp => ?_)
          obtain rfl := hp
          refine Rs.binB rfl rfl rfl rfl rfl rfl ?_
          refine Rs.nil ?_
          refine Ps.thn ?_
          refine Ps.if rfl (fun hc => ?_) (fun hc => ?_)
          · try (first | replace hc := D1 hc | replace hc := D2 hc | replace hc := D3 hc | replace hc := D4 hc | replace hc := D5 hc | replace hc := D6 hc | replace hc := D7 hc | replace hc := D8 hc | replace hc := D9 hc | replace hc := D10 hc)
            refine Ps.regionD ?_
            first | refine Rs.fieldAddrD (off' := 0) rfl rfl rfl rfl ?_ | refine Rs.fieldAddrP (off' := 0) rfl rfl rfl rfl ?_
            first | refine Rs.loadR rfl rfl rfl rfl ?_ | refine Rs.loadP 0 rfl rfl rfl rfl rfl ?_ | refine Rs.loadP 1 rfl rfl rfl rfl rfl ?_ | refine Rs.loadP 2 rfl rfl rfl rfl rfl ?_ | refine Rs.loadP 3 rfl rfl rfl rfl rfl ?_
            first | refine Rs.fieldAddrD (off' := 2) rfl rfl rfl rfl ?_ | refine Rs.fieldAddrP (off' := 2) rfl rfl rfl rfl ?_
            first | refine Rs.loadR rfl rfl rfl rfl ?_ | refine Rs.loadP 0 rfl rfl rfl rfl rfl ?_ | refine Rs.loadP 1 rfl rfl rfl rfl rfl ?_ | refine Rs.loadP 2 rfl rfl rfl rfl rfl ?_ | refine Rs.loadP 3 rfl rfl rfl rfl rfl ?_
            first | refine Rs.fieldAddrD (off' := 3) rfl rfl rfl rfl ?_ | refine Rs.fieldAddrP (off' := 3) rfl rfl rfl rfl ?_
            first | refine Rs.store0 (l' := [.agg [_, _, _, _]]) rfl rfl rfl (by first | rfl | exact storeB_ag rfl rfl rfl (by simp [scalars, sc_int, sc_str, sc_bool, sc_nil, sc_dsl, sc_own, sc_g, sc_f, *]) | exact storeB_fld rfl (by first | assumption | exact cl_g | exact cl_f) (by first | assumption | exact sc_g | exact sc_f) rfl) ?_ | refine Rs.store1 (l' := [.agg [_, _, _, _]]) rfl rfl rfl (by first | rfl | exact storeB_ag rfl rfl rfl (by simp [scalars, sc_int, sc_str, sc_bool, sc_nil, sc_dsl, sc_own, sc_g, sc_f, *]) | exact storeB_fld rfl (by first | assumption | exact cl_g | exact cl_f) (by first | assumption | exact sc_g | exact sc_f) rfl) ?_ | refine Rs.store2 (l' := [.agg [_, _, _, _]]) rfl rfl rfl (by first | rfl | exact storeB_ag rfl rfl rfl (by simp [scalars, sc_int, sc_str, sc_bool, sc_nil, sc_dsl, sc_own, sc_g, sc_f, *]) | exact storeB_fld rfl (by first | assumption | exact cl_g | exact cl_f) (by first | assumption | exact sc_g | exact sc_f) rfl) ?_ | refine Rs.store3 (l' := [.agg [_, _, _, _]]) rfl rfl rfl (by first | rfl | exact storeB_ag rfl rfl rfl (by simp [scalars, sc_int, sc_str, sc_bool, sc_nil, sc_dsl, sc_own, sc_g, sc_f, *]) | exact storeB_fld rfl (by first | assumption | exact cl_g | exact cl_f) (by first | assumption | exact sc_g | exact sc_f) rfl) ?_
            first | refine Rs.fieldAddrD (off' := 2) rfl rfl rfl rfl ?_ | refine Rs.fieldAddrP (off' := 2) rfl rfl rfl rfl ?_
            first | refine Rs.store0 (l' := [.agg [_, _, _, _]]) rfl rfl rfl (by first | rfl | exact storeB_ag rfl rfl rfl (by simp [scalars, sc_int, sc_str, sc_bool, sc_nil, sc_dsl, sc_own, sc_g, sc_f, *]) | exact storeB_fld rfl (by first | assumption | exact cl_g | exact cl_f) (by first | assumption | exact sc_g | exact sc_f) rfl) ?_ | refine Rs.store1 (l' := [.agg [_, _, _, _]]) rfl rfl rfl (by first | rfl | exact storeB_ag rfl rfl rfl (by simp [scalars, sc_int, sc_str, sc_bool, sc_nil, sc_dsl, sc_own, sc_g, sc_f, *]) | exact storeB_fld rfl (by first | assumption | exact cl_g | exact cl_f) (by first | assumption | exact sc_g | exact sc_f) rfl) ?_ | refine Rs.store2 (l' := [.agg [_, _, _, _]]) rfl rfl rfl (by first | rfl | exact storeB_ag rfl rfl rfl (by simp [scalars, sc_int, sc_str, sc_bool, sc_nil, sc_dsl, sc_own, sc_g, sc_f, *]) | exact storeB_fld rfl (by first | assumption | exact cl_g | exact cl_f) (by first | assumption | exact sc_g | exact sc_f) rfl) ?_ | refine Rs.store3 (l' := [.agg [_, _, _, _]]) rfl rfl rfl (by first | rfl | exact storeB_ag rfl rfl rfl (by simp [scalars, sc_int, sc_str, sc_bool, sc_nil, sc_dsl, sc_own, sc_g, sc_f, *]) | exact storeB_fld rfl (by first | assumption | exact cl_g | exact cl_f) (by first | assumption | exact sc_g | exact sc_f) rfl) ?_
            refine Rs.nilD [(1, 5), (3, 5), (1, 7), (3, 7)] rfl (fun H hH => ⟨⟨_, _, _, _, rfl, rfl, rfl, rfl, (by show (!Nat.beq _ _) = true; rw [hH.ne (j := 0) (k := 1) rfl rfl (by decide)]; rfl)⟩, ⟨_, _, _, _, rfl, rfl, rfl, rfl, (by show (!Nat.beq _ _) = true; rw [hH.ne (j := 0) (k := 1) rfl rfl (by decide)]; rfl)⟩, ⟨_, _, _, _, rfl, rfl, rfl, rfl, (by show (!Nat.beq _ _) = true; rw [hH.ne (j := 0) (k := 1) rfl rfl (by decide)]; rfl)⟩, ⟨_, _, _, _, rfl, rfl, rfl, rfl, (by show (!Nat.beq _ _) = true; rw [hH.ne (j := 0) (k := 1) rfl rfl (by decide)]; rfl)⟩, trivial⟩) ?_
            refine Ps.thn ?_
            refine Ps.region rfl ?_
            refine Rs.move rfl rfl ?_
            first | refine Rs.loadR (p := .agg [_, _, _, _]) rfl rfl rfl rfl ?_ | refine Rs.loadP (p := .agg [_, _, _, _]) 0 rfl rfl rfl rfl rfl ?_ | refine Rs.loadP (p := .agg [_, _, _, _]) 1 rfl rfl rfl rfl rfl ?_ | refine Rs.loadP (p := .agg [_, _, _, _]) 2 rfl rfl rfl rfl rfl ?_ | refine Rs.loadP (p := .agg [_, _, _, _]) 3 rfl rfl rfl rfl rfl ?_
            refine Rs.buildSlice (l := [_]) rfl rfl rfl rfl (by first | rfl | simp [deepL, deepB, *]) ?_
            first | refine Rs.append0 4 32 rfl rfl ⟨_, rfl⟩ rfl rfl rfl rfl rfl rfl rfl rfl rfl rfl (by assumption) rfl (by first | rfl | simp [scalarsE, scalars, PV.cells, sc_int, sc_str, sc_bool, sc_nil, sc_dsl, *]) (by simp; omega) (fun a65 ha65 => ?_) | refine Rs.append1 4 32 rfl rfl ⟨_, rfl⟩ rfl rfl rfl rfl rfl rfl rfl rfl rfl rfl (by assumption) rfl (by first | rfl | simp [scalarsE, scalars, PV.cells, sc_int, sc_str, sc_bool, sc_nil, sc_dsl, *]) (by simp; omega) (fun a65 ha65 => ?_) | refine Rs.append2 4 32 rfl rfl ⟨_, rfl⟩ rfl rfl rfl rfl rfl rfl rfl rfl rfl rfl (by assumption) rfl (by first | rfl | simp [scalarsE, scalars, PV.cells, sc_int, sc_str, sc_bool, sc_nil, sc_dsl, *]) (by simp; omega) (fun a65 ha65 => ?_) | refine Rs.append3 4 32 rfl rfl ⟨_, rfl⟩ rfl rfl rfl rfl rfl rfl rfl rfl rfl rfl (by assumption) rfl (by first | rfl | simp [scalarsE, scalars, PV.cells, sc_int, sc_str, sc_bool, sc_nil, sc_dsl, *]) (by simp; omega) (fun a65 ha65 => ?_)
            refine Rs.assign rfl rfl ?_
            refine Rs.nil ?_
            refine Ps.blk ?_
            refine Ps.thn ?_
            refine Ps.region rfl ?_
            refine Rs.add rfl rfl rfl (by first | exact W_i64s (by omega) | exact W_i64 (by omega) (by omega) | rfl) ?_
            refine Rs.move rfl rfl ?_
            refine Rs.nil ?_
            -- leaf 2 (round1)
            have h4 : x.code % 4 ≤ 3 ∧ 0 ≤ x.code % 4 := by omega
            have hgt : ∀ a ∈ c, a.code < code + (1 + x.code % 4) := fun a h => by have := hca a h; omega
            have fin : ∀ (z : Acc), z.code = code + (1 + x.code % 4) → Made (c ++ [z]) → j + 1 ≤ l.length ∧ j + 1 ≤ 40 ∧ (c ++ [z]).length = j + 1 ∧ Made (c ++ [z]) ∧ 0 ≤ z.code ∧ z.code ≤ 4 * ((j + 1 : Nat) : Int) ∧ (∀ a ∈ c ++ [z], a.code ≤ z.code) := by
              intro z hz M
              refine ⟨by omega, by omega, by simp [hcl], M, by omega, by omega, fun a h => ?_⟩
              rcases List.mem_append.1 h with h | h
              · have := hgt a h; omega
              · rw [List.mem_singleton.1 h]; exact Int.le_refl _
            first
              | (have M' : Made (c ++ [(⟨code + (1 + x.code % 4), nameB x.name, y.kind, y.code⟩ : Acc)]) := hM.snoc (by omega) (by show 1 ≤ code + (1 + x.code % 4); omega) hgt (.inr ⟨y, hym, rfl, rfl, by omega⟩) (nameB_ok _) (hM.kinds y hym) (by show code + (1 + x.code % 4) ≤ 160; omega)
                 rw [show List.map accP c ++ [PV.agg [u32P (code + (1 + x.code % 4)), strP (nameB x.name), u8P y.kind, u32P y.code]] = List.map accP (c ++ [(⟨code + (1 + x.code % 4), nameB x.name, y.kind, y.code⟩ : Acc)]) by rw [List.map_append]; rfl] at ha65 ⊢
                 obtain ⟨f1, f2, f3, f4, f5, f6, f7⟩ := fin ⟨code + (1 + x.code % 4), nameB x.name, y.kind, y.code⟩ rfl M'
                 exact Ps.round (j + 1, c ++ [⟨code + (1 + x.code % 4), nameB x.name, y.kind, y.code⟩], code + (1 + x.code % 4), a65) ⟨f1, f2, f3, f4, f5, f6, f7, ha65⟩ (by show l.length - (j + 1) < l.length - j; omega) ⟨rfl, rfl, rfl, trivial⟩ (by repeat' first | exact HasL.nil | refine HasL.cons rfl ?_) (by repeat' first | exact List.Sublist.refl _ | exact List.nil_sublist _ | exact List.sublist_append_left _ _ | refine List.Sublist.cons₂ _ ?_ | refine List.Sublist.cons _ ?_))
              | (have M' : Made (c ++ [(⟨code + (1 + x.code % 4), nameB x.name, x.kind % 5, 0⟩ : Acc)]) := hM.snoc (by omega) (by show 1 ≤ code + (1 + x.code % 4); omega) hgt (.inl rfl) (nameB_ok _) (by show 0 ≤ x.kind % 5 ∧ x.kind % 5 ≤ 4; omega) (by show code + (1 + x.code % 4) ≤ 160; omega)
                 rw [show List.map accP c ++ [PV.agg [u32P (code + (1 + x.code % 4)), strP (nameB x.name), u8P (x.kind % 5), u32P 0]] = List.map accP (c ++ [(⟨code + (1 + x.code % 4), nameB x.name, x.kind % 5, 0⟩ : Acc)]) by rw [List.map_append]; rfl] at ha65 ⊢
                 obtain ⟨f1, f2, f3, f4, f5, f6, f7⟩ := fin ⟨code + (1 + x.code % 4), nameB x.name, x.kind % 5, 0⟩ rfl M'
                 exact Ps.round (j + 1, c ++ [⟨code + (1 + x.code % 4), nameB x.name, x.kind % 5, 0⟩], code + (1 + x.code % 4), a65) ⟨f1, f2, f3, f4, f5, f6, f7, ha65⟩ (by show l.length - (j + 1) < l.length - j; omega) ⟨rfl, rfl, rfl, trivial⟩ (by repeat' first | exact HasL.nil | refine HasL.cons rfl ?_) (by repeat' first | exact List.Sublist.refl _ | exact List.nil_sublist _ | exact List.sublist_append_left _ _ | refine List.Sublist.cons₂ _ ?_ | refine List.Sublist.cons _ ?_))
          · try (first | replace hc := D1 hc | replace hc := D2 hc | replace hc := D3 hc | replace hc := D4 hc | replace hc := D5 hc | replace hc := D6 hc | replace hc := D7 hc | replace hc := D8 hc | replace hc := D9 hc | replace hc := D10 hc)
            refine Ps.skip ?_
            refine Ps.thn ?_
            refine Ps.region rfl ?_
            refine Rs.move rfl rfl ?_
            first | refine Rs.loadR (p := .agg [_, _, _, _]) rfl rfl rfl rfl ?_ | refine Rs.loadP (p := .agg [_, _, _, _]) 0 rfl rfl rfl rfl rfl ?_ | refine Rs.loadP (p := .agg [_, _, _, _]) 1 rfl rfl rfl rfl rfl ?_ | refine Rs.loadP (p := .agg [_, _, _, _]) 2 rfl rfl rfl rfl rfl ?_ | refine Rs.loadP (p := .agg [_, _, _, _]) 3 rfl rfl rfl rfl rfl ?_
            refine Rs.buildSlice (l := [_]) rfl rfl rfl rfl (by first | rfl | simp [deepL, deepB, *]) ?_
            first | refine Rs.append0 4 32 rfl rfl ⟨_, rfl⟩ rfl rfl rfl rfl rfl rfl rfl rfl rfl rfl (by assumption) rfl (by first | rfl | simp [scalarsE, scalars, PV.cells, sc_int, sc_str, sc_bool, sc_nil, sc_dsl, *]) (by simp; omega) (fun a65 ha65 => ?_) | refine Rs.append1 4 32 rfl rfl ⟨_, rfl⟩ rfl rfl rfl rfl rfl rfl rfl rfl rfl rfl (by assumption) rfl (by first | rfl | simp [scalarsE, scalars, PV.cells, sc_int, sc_str, sc_bool, sc_nil, sc_dsl, *]) (by simp; omega) (fun a65 ha65 => ?_) | refine Rs.append2 4 32 rfl rfl ⟨_, rfl⟩ rfl rfl rfl rfl rfl rfl rfl rfl rfl rfl (by assumption) rfl (by first | rfl | simp [scalarsE, scalars, PV.cells, sc_int, sc_str, sc_bool, sc_nil, sc_dsl, *]) (by simp; omega) (fun a65 ha65 => ?_) | refine Rs.append3 4 32 rfl rfl ⟨_, rfl⟩ rfl rfl rfl rfl rfl rfl rfl rfl rfl rfl (by assumption) rfl (by first | rfl | simp [scalarsE, scalars, PV.cells, sc_int, sc_str, sc_bool, sc_nil, sc_dsl, *]) (by simp; omega) (fun a65 ha65 => ?_)
            refine Rs.assign rfl rfl ?_
            refine Rs.nil ?_
            refine Ps.blk ?_
            refine Ps.thn ?_
            refine Ps.region rfl ?_
            refine Rs.add rfl rfl rfl (by first | exact W_i64s (by omega) | exact W_i64 (by omega) (by omega) | rfl) ?_
            refine Rs.move rfl rfl ?_
            refine Rs.nil ?_
            -- leaf 3 (round1)
            have h4 : x.code % 4 ≤ 3 ∧ 0 ≤ x.code % 4 := by omega
            have hgt : ∀ a ∈ c, a.code < code + (1 + x.code % 4) := fun a h => by have := hca a h; omega
            have fin : ∀ (z : Acc), z.code = code + (1 + x.code % 4) → Made (c ++ [z]) → j + 1 ≤ l.length ∧ j + 1 ≤ 40 ∧ (c ++ [z]).length = j + 1 ∧ Made (c ++ [z]) ∧ 0 ≤ z.code ∧ z.code ≤ 4 * ((j + 1 : Nat) : Int) ∧ (∀ a ∈ c ++ [z], a.code ≤ z.code) := by
              intro z hz M
              refine ⟨by omega, by omega, by simp [hcl], M, by omega, by omega, fun a h => ?_⟩
              rcases List.mem_append.1 h with h | h
              · have := hgt a h; omega
              · rw [List.mem_singleton.1 h]; exact Int.le_refl _
            first
              | (have M' : Made (c ++ [(⟨code + (1 + x.code % 4), nameB x.name, y.kind, y.code⟩ : Acc)]) := hM.snoc (by omega) (by show 1 ≤ code + (1 + x.code % 4); omega) hgt (.inr ⟨y, hym, rfl, rfl, by omega⟩) (nameB_ok _) (hM.kinds y hym) (by show code + (1 + x.code % 4) ≤ 160; omega)
                 rw [show List.map accP c ++ [PV.agg [u32P (code + (1 + x.code % 4)), strP (nameB x.name), u8P y.kind, u32P y.code]] = List.map accP (c ++ [(⟨code + (1 + x.code % 4), nameB x.name, y.kind, y.code⟩ : Acc)]) by rw [List.map_append]; rfl] at ha65 ⊢
                 obtain ⟨f1, f2, f3, f4, f5, f6, f7⟩ := fin ⟨code + (1 + x.code % 4), nameB x.name, y.kind, y.code⟩ rfl M'
                 exact Ps.round (j + 1, c ++ [⟨code + (1 + x.code % 4), nameB x.name, y.kind, y.code⟩], code + (1 + x.code % 4), a65) ⟨f1, f2, f3, f4, f5, f6, f7, ha65⟩ (by show l.length - (j + 1) < l.length - j; omega) ⟨rfl, rfl, rfl, trivial⟩ (by repeat' first | exact HasL.nil | refine HasL.cons rfl ?_) (by repeat' first | exact List.Sublist.refl _ | exact List.nil_sublist _ | exact List.sublist_append_left _ _ | refine List.Sublist.cons₂ _ ?_ | refine List.Sublist.cons _ ?_))
              | (have M' : Made (c ++ [(⟨code + (1 + x.code % 4), nameB x.name, x.kind % 5, 0⟩ : Acc)]) := hM.snoc (by omega) (by show 1 ≤ code + (1 + x.code % 4); omega) hgt (.inl rfl) (nameB_ok _) (by show 0 ≤ x.kind % 5 ∧ x.kind % 5 ≤ 4; omega) (by show code + (1 + x.code % 4) ≤ 160; omega)
                 rw [show List.map accP c ++ [PV.agg [u32P (code + (1 + x.code % 4)), strP (nameB x.name), u8P (x.kind % 5), u32P 0]] = List.map accP (c ++ [(⟨code + (1 + x.code % 4), nameB x.name, x.kind % 5, 0⟩ : Acc)]) by rw [List.map_append]; rfl] at ha65 ⊢
                 obtain ⟨f1, f2, f3, f4, f5, f6, f7⟩ := fin ⟨code + (1 + x.code % 4), nameB x.name, x.kind % 5, 0⟩ rfl M'
                 exact Ps.round (j + 1, c ++ [⟨code + (1 + x.code % 4), nameB x.name, x.kind % 5, 0⟩], code + (1 + x.code % 4), a65) ⟨f1, f2, f3, f4, f5, f6, f7, ha65⟩ (by show l.length - (j + 1) < l.length - j; omega) ⟨rfl, rfl, rfl, trivial⟩ (by repeat' first | exact HasL.nil | refine HasL.cons rfl ?_) (by repeat' first | exact List.Sublist.refl _ | exact List.nil_sublist _ | exact List.sublist_append_left _ _ | refine List.Sublist.cons₂ _ ?_ | refine List.Sublist.cons _ ?_))
        · try (first | replace hc := D1 hc | replace hc := D2 hc | replace hc := D3 hc | replace hc := D4 hc | replace hc := D5 hc | replace hc := D6 hc | replace hc := D7 hc | replace hc := D8 hc | replace hc := D9 hc | replace hc := D10 hc)
          refine Ps.skip ?_
          refine Ps.thn ?_
          refine Ps.region rfl ?_
          refine Rs.move rfl rfl ?_
          first | refine Rs.loadR (p := .agg [_, _, _, _]) rfl rfl rfl rfl ?_ | refine Rs.loadP (p := .agg [_, _, _, _]) 0 rfl rfl rfl rfl rfl ?_ | refine Rs.loadP (p := .agg [_, _, _, _]) 1 rfl rfl rfl rfl rfl ?_ | refine Rs.loadP (p := .agg [_, _, _, _]) 2 rfl rfl rfl rfl rfl ?_ | refine Rs.loadP (p := .agg [_, _, _, _]) 3 rfl rfl rfl rfl rfl ?_
          refine Rs.buildSlice (l := [_]) rfl rfl rfl rfl (by first | rfl | simp [deepL, deepB, *]) ?_
          first | refine Rs.append0 4 32 rfl rfl ⟨_, rfl⟩ rfl rfl rfl rfl rfl rfl rfl rfl rfl rfl (by assumption) rfl (by first | rfl | simp [scalarsE, scalars, PV.cells, sc_int, sc_str, sc_bool, sc_nil, sc_dsl, *]) (by simp; omega) (fun a65 ha65 => ?_) | refine Rs.append1 4 32 rfl rfl ⟨_, rfl⟩ rfl rfl rfl rfl rfl rfl rfl rfl rfl rfl (by assumption) rfl (by first | rfl | simp [scalarsE, scalars, PV.cells, sc_int, sc_str, sc_bool, sc_nil, sc_dsl, *]) (by simp; omega) (fun a65 ha65 => ?_) | refine Rs.append2 4 32 rfl rfl ⟨_, rfl⟩ rfl rfl rfl rfl rfl rfl rfl rfl rfl rfl (by assumption) rfl (by first | rfl | simp [scalarsE, scalars, PV.cells, sc_int, sc_str, sc_bool, sc_nil, sc_dsl, *]) (by simp; omega) (fun a65 ha65 => ?_) | refine Rs.append3 4 32 rfl rfl ⟨_, rfl⟩ rfl rfl rfl rfl rfl rfl rfl rfl rfl rfl (by assumption) rfl (by first | rfl | simp [scalarsE, scalars, PV.cells, sc_int, sc_str, sc_bool, sc_nil, sc_dsl, *]) (by simp; omega) (fun a65 ha65 => ?_)
          refine Rs.assign rfl rfl ?_
          refine Rs.nil ?_
          refine Ps.blk ?_
          refine Ps.thn ?_
          refine Ps.region rfl ?_
          refine Rs.add rfl rfl rfl (by first | exact W_i64s (by omega) | exact W_i64 (by omega) (by omega) | rfl) ?_
          refine Rs.move rfl rfl ?_
          refine Rs.nil ?_
          -- leaf 4 (round1)
          have h4 : x.code % 4 ≤ 3 ∧ 0 ≤ x.code % 4 := by omega
          have hgt : ∀ a ∈ c, a.code < code + (1 + x.code % 4) := fun a h => by have := hca a h; omega
          have fin : ∀ (z : Acc), z.code = code + (1 + x.code % 4) → Made (c ++ [z]) → j + 1 ≤ l.length ∧ j + 1 ≤ 40 ∧ (c ++ [z]).length = j + 1 ∧ Made (c ++ [z]) ∧ 0 ≤ z.code ∧ z.code ≤ 4 * ((j + 1 : Nat) : Int) ∧ (∀ a ∈ c ++ [z], a.code ≤ z.code) := by
            intro z hz M
            refine ⟨by omega, by omega, by simp [hcl], M, by omega, by omega, fun a h => ?_⟩
            rcases List.mem_append.1 h with h | h
            · have := hgt a h; omega
            · rw [List.mem_singleton.1 h]; exact Int.le_refl _
          first
            | (have M' : Made (c ++ [(⟨code + (1 + x.code % 4), nameB x.name, y.kind, y.code⟩ : Acc)]) := hM.snoc (by omega) (by show 1 ≤ code + (1 + x.code % 4); omega) hgt (.inr ⟨y, hym, rfl, rfl, by omega⟩) (nameB_ok _) (hM.kinds y hym) (by show code + (1 + x.code % 4) ≤ 160; omega)
               rw [show List.map accP c ++ [PV.agg [u32P (code + (1 + x.code % 4)), strP (nameB x.name), u8P y.kind, u32P y.code]] = List.map accP (c ++ [(⟨code + (1 + x.code % 4), nameB x.name, y.kind, y.code⟩ : Acc)]) by rw [List.map_append]; rfl] at ha65 ⊢
               obtain ⟨f1, f2, f3, f4, f5, f6, f7⟩ := fin ⟨code + (1 + x.code % 4), nameB x.name, y.kind, y.code⟩ rfl M'
               exact Ps.round (j + 1, c ++ [⟨code + (1 + x.code % 4), nameB x.name, y.kind, y.code⟩], code + (1 + x.code % 4), a65) ⟨f1, f2, f3, f4, f5, f6, f7, ha65⟩ (by show l.length - (j + 1) < l.length - j; omega) ⟨rfl, rfl, rfl, trivial⟩ (by repeat' first | exact HasL.nil | refine HasL.cons rfl ?_) (by repeat' first | exact List.Sublist.refl _ | exact List.nil_sublist _ | exact List.sublist_append_left _ _ | refine List.Sublist.cons₂ _ ?_ | refine List.Sublist.cons _ ?_))
            | (have M' : Made (c ++ [(⟨code + (1 + x.code % 4), nameB x.name, x.kind % 5, 0⟩ : Acc)]) := hM.snoc (by omega) (by show 1 ≤ code + (1 + x.code % 4); omega) hgt (.inl rfl) (nameB_ok _) (by show 0 ≤ x.kind % 5 ∧ x.kind % 5 ≤ 4; omega) (by show code + (1 + x.code % 4) ≤ 160; omega)
               rw [show List.map accP c ++ [PV.agg [u32P (code + (1 + x.code % 4)), strP (nameB x.name), u8P (x.kind % 5), u32P 0]] = List.map accP (c ++ [(⟨code + (1 + x.code % 4), nameB x.name, x.kind % 5, 0⟩ : Acc)]) by rw [List.map_append]; rfl] at ha65 ⊢
               obtain ⟨f1, f2, f3, f4, f5, f6, f7⟩ := fin ⟨code + (1 + x.code % 4), nameB x.name, x.kind % 5, 0⟩ rfl M'
               exact Ps.round (j + 1, c ++ [⟨code + (1 + x.code % 4), nameB x.name, x.kind % 5, 0⟩], code + (1 + x.code % 4), a65) ⟨f1, f2, f3, f4, f5, f6, f7, ha65⟩ (by show l.length - (j + 1) < l.length - j; omega) ⟨rfl, rfl, rfl, trivial⟩ (by repeat' first | exact HasL.nil | refine HasL.cons rfl ?_) (by repeat' first | exact List.Sublist.refl _ | exact List.nil_sublist _ | exact List.sublist_append_left _ _ | refine List.Sublist.cons₂ _ ?_ | refine List.Sublist.cons _ ?_))
      · try (first | replace hg := D1 hg | replace hg := D2 hg | replace hg := D3 hg | replace hg := D4 hg | replace hg := D5 hg | replace hg := D6 hg | replace hg := D7 hg | replace hg := D8 hg | replace hg := D9 hg | replace hg := D10 hg)
        refine Rs.guardF1 rfl rfl rfl ?_
        refine Rs.guardF1 rfl rfl rfl ?_
        refine Rs.guardF1 rfl rfl rfl ?_
        refine Rs.pickF (q := .lit _) rfl rfl rfl rfl ?_
        refine Rs.nil ?_
        refine Ps.thn ?_
        refine Ps.ifF rfl ?_
        refine Ps.skip ?_
        refine Ps.thn ?_
        refine Ps.region rfl ?_
        refine Rs.move rfl rfl ?_
        first | refine Rs.loadR (p := .agg [_, _, _, _]) rfl rfl rfl rfl ?_ | refine Rs.loadP (p := .agg [_, _, _, _]) 0 rfl rfl rfl rfl rfl ?_ | refine Rs.loadP (p := .agg [_, _, _, _]) 1 rfl rfl rfl rfl rfl ?_ | refine Rs.loadP (p := .agg [_, _, _, _]) 2 rfl rfl rfl rfl rfl ?_ | refine Rs.loadP (p := .agg [_, _, _, _]) 3 rfl rfl rfl rfl rfl ?_
        refine Rs.buildSlice (l := [_]) rfl rfl rfl rfl (by first | rfl | simp [deepL, deepB, *]) ?_
        first | refine Rs.append0 4 32 rfl rfl ⟨_, rfl⟩ rfl rfl rfl rfl rfl rfl rfl rfl rfl rfl (by assumption) rfl (by first | rfl | simp [scalarsE, scalars, PV.cells, sc_int, sc_str, sc_bool, sc_nil, sc_dsl, *]) (by simp; omega) (fun a65 ha65 => ?_) | refine Rs.append1 4 32 rfl rfl ⟨_, rfl⟩ rfl rfl rfl rfl rfl rfl rfl rfl rfl rfl (by assumption) rfl (by first | rfl | simp [scalarsE, scalars, PV.cells, sc_int, sc_str, sc_bool, sc_nil, sc_dsl, *]) (by simp; omega) (fun a65 ha65 => ?_) | refine Rs.append2 4 32 rfl rfl ⟨_, rfl⟩ rfl rfl rfl rfl rfl rfl rfl rfl rfl rfl (by assumption) rfl (by first | rfl | simp [scalarsE, scalars, PV.cells, sc_int, sc_str, sc_bool, sc_nil, sc_dsl, *]) (by simp; omega) (fun a65 ha65 => ?_) | refine Rs.append3 4 32 rfl rfl ⟨_, rfl⟩ rfl rfl rfl rfl rfl rfl rfl rfl rfl rfl (by assumption) rfl (by first | rfl | simp [scalarsE, scalars, PV.cells, sc_int, sc_str, sc_bool, sc_nil, sc_dsl, *]) (by simp; omega) (fun a65 ha65 => ?_)
        refine Rs.assign rfl rfl ?_
        refine Rs.nil ?_
        refine Ps.blk ?_
        refine Ps.thn ?_
        refine Ps.region rfl ?_
        refine Rs.add rfl rfl rfl (by first | exact W_i64s (by omega) | exact W_i64 (by omega) (by omega) | rfl) ?_
        refine Rs.move rfl rfl ?_
        refine Rs.nil ?_
        -- leaf 5 (round1)
        have h4 : x.code % 4 ≤ 3 ∧ 0 ≤ x.code % 4 := by omega
        have hgt : ∀ a ∈ c, a.code < code + (1 + x.code % 4) := fun a h => by have := hca a h; omega
        have fin : ∀ (z : Acc), z.code = code + (1 + x.code % 4) → Made (c ++ [z]) → j + 1 ≤ l.length ∧ j + 1 ≤ 40 ∧ (c ++ [z]).length = j + 1 ∧ Made (c ++ [z]) ∧ 0 ≤ z.code ∧ z.code ≤ 4 * ((j + 1 : Nat) : Int) ∧ (∀ a ∈ c ++ [z], a.code ≤ z.code) := by
          intro z hz M
          refine ⟨by omega, by omega, by simp [hcl], M, by omega, by omega, fun a h => ?_⟩
          rcases List.mem_append.1 h with h | h
          · have := hgt a h; omega
          · rw [List.mem_singleton.1 h]; exact Int.le_refl _
        first
          | (have M' : Made (c ++ [(⟨code + (1 + x.code % 4), nameB x.name, y.kind, y.code⟩ : Acc)]) := hM.snoc (by omega) (by show 1 ≤ code + (1 + x.code % 4); omega) hgt (.inr ⟨y, hym, rfl, rfl, by omega⟩) (nameB_ok _) (hM.kinds y hym) (by show code + (1 + x.code % 4) ≤ 160; omega)
             rw [show List.map accP c ++ [PV.agg [u32P (code + (1 + x.code % 4)), strP (nameB x.name), u8P y.kind, u32P y.code]] = List.map accP (c ++ [(⟨code + (1 + x.code % 4), nameB x.name, y.kind, y.code⟩ : Acc)]) by rw [List.map_append]; rfl] at ha65 ⊢
             obtain ⟨f1, f2, f3, f4, f5, f6, f7⟩ := fin ⟨code + (1 + x.code % 4), nameB x.name, y.kind, y.code⟩ rfl M'
             exact Ps.round (j + 1, c ++ [⟨code + (1 + x.code % 4), nameB x.name, y.kind, y.code⟩], code + (1 + x.code % 4), a65) ⟨f1, f2, f3, f4, f5, f6, f7, ha65⟩ (by show l.length - (j + 1) < l.length - j; omega) ⟨rfl, rfl, rfl, trivial⟩ (by repeat' first | exact HasL.nil | refine HasL.cons rfl ?_) (by repeat' first | exact List.Sublist.refl _ | exact List.nil_sublist _ | exact List.sublist_append_left _ _ | refine List.Sublist.cons₂ _ ?_ | refine List.Sublist.cons _ ?_))
          | (have M' : Made (c ++ [(⟨code + (1 + x.code % 4), nameB x.name, x.kind % 5, 0⟩ : Acc)]) := hM.snoc (by omega) (by show 1 ≤ code + (1 + x.code % 4); omega) hgt (.inl rfl) (nameB_ok _) (by show 0 ≤ x.kind % 5 ∧ x.kind % 5 ≤ 4; omega) (by show code + (1 + x.code % 4) ≤ 160; omega)
             rw [show List.map accP c ++ [PV.agg [u32P (code + (1 + x.code % 4)), strP (nameB x.name), u8P (x.kind % 5), u32P 0]] = List.map accP (c ++ [(⟨code + (1 + x.code % 4), nameB x.name, x.kind % 5, 0⟩ : Acc)]) by rw [List.map_append]; rfl] at ha65 ⊢
             obtain ⟨f1, f2, f3, f4, f5, f6, f7⟩ := fin ⟨code + (1 + x.code % 4), nameB x.name, x.kind % 5, 0⟩ rfl M'
             exact Ps.round (j + 1, c ++ [⟨code + (1 + x.code % 4), nameB x.name, x.kind % 5, 0⟩], code + (1 + x.code % 4), a65) ⟨f1, f2, f3, f4, f5, f6, f7, ha65⟩ (by show l.length - (j + 1) < l.length - j; omega) ⟨rfl, rfl, rfl, trivial⟩ (by repeat' first | exact HasL.nil | refine HasL.cons rfl ?_) (by repeat' first | exact List.Sublist.refl _ | exact List.nil_sublist _ | exact List.sublist_append_left _ _ | refine List.Sublist.cons₂ _ ?_ | refine List.Sublist.cons _ ?_))
  · try (first | replace hc := D1 hc | replace hc := D2 hc | replace hc := D3 hc | replace hc := D4 hc | replace hc := D5 hc | replace hc := D6 hc | replace hc := D7 hc | replace hc := D8 hc | replace hc := D9 hc | replace hc := D10 hc)
    refine Ps.exit ?_
    refine Ps.thn_exit ?_
    refine Ps.rnd_exit ?_
    refine Ps.blk_here ?_
    refine Ps.thn ?_
    refine Ps.seq ?_
    refine Ps.region rfl ?_
    refine Rs.move rfl rfl ?_
    refine Rs.assign rfl rfl ?_
    refine Rs.nil ?_
    refine Ps.thn ?_
    refine Ps.ret ?_
    -- leaf 6 (ret)
    refine Ps.finG (a := a) rfl (.tmp rfl .nil) ha (by repeat' first | exact List.Sublist.refl _ | exact List.nil_sublist _ | exact List.sublist_append_left _ _ | refine List.Sublist.cons₂ _ ?_ | refine List.Sublist.cons _ ?_) (by intro q hq; obtain ⟨z, _, rfl⟩ := List.mem_map.1 hq; rfl) (by simp; omega) ⟨c, hM, (by first | omega | (simp at hc; omega) | (simp at hg; omega)), rfl⟩
end Go.Proofs.YtddaogebacigbaaGreatDoor.RV.T
