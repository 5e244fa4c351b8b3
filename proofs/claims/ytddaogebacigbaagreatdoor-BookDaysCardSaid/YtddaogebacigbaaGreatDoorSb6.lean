/- A part of the symbolic runs of functions by the evaluator (TB6). Conditions: none. -/
import Derived.Test.YtddaogebacigbaaGreatDoorSb5
import Derived.Test.YtddaogebacigbaaGreatDoorSb4
import Derived.Test.YtddaogebacigbaaGreatDoorSb3
import Derived.Test.YtddaogebacigbaaGreatDoorSb2
import Derived.Test.YtddaogebacigbaaGreatDoorSb1
import Derived.Test.YtddaogebacigbaaGreatDoorSvK
import Derived.Test.YtddaogebacigbaaGreatDoorSvS
open Go Go.Proofs.YtddaogebacigbaaGreatDoor.RV Go.Proofs.YtddaogebacigbaaGreatDoor.XA.Awk Go.Proofs.YtddaogebacigbaaGreatDoor.RV.ChartMath Go.Proofs
namespace Go.Proofs.YtddaogebacigbaaGreatDoor.RV.T
set_option maxRecDepth 100000
set_option linter.unusedVariables false
set_option linter.unusedSimpArgs false
structure LV where
  acc : Int
  ent : Int
  ctr : Int
  amt : Int
def lvP (x : LV) : PV := .agg [u8P x.acc, u8P x.ent, u8P x.ctr, i64P x.amt]
structure JV where
  later : Int
  lines : List LV
def jvP (j : JV) : PV := .agg [u8P j.later, .dsl 4 (j.lines.map lvP) none]
structure BV where
  chart : List Src
  units : List Int
  first : Int
  long : List Int
  js : List JV
def bvP (x : BV) : PV := .agg [.dsl 4 (x.chart.map srcP) none, .dsl 1 (x.units.map u16P) none, i16P x.first, .dsl 1 (x.long.map u8P) none, .dsl 2 (x.js.map jvP) none]
def LvOk (x : LV) : Prop := (0 ≤ x.acc ∧ x.acc ≤ 255) ∧ (0 ≤ x.ent ∧ x.ent ≤ 255) ∧ (0 ≤ x.ctr ∧ x.ctr ≤ 255) ∧ -9223372036854775808 ≤ x.amt ∧ x.amt ≤ 9223372036854775807
structure BvOk (x : BV) : Prop where
  src : ∀ y ∈ x.chart, SrcOk y
  un : ∀ y ∈ x.units, 0 ≤ y ∧ y ≤ 65535
  first : -32768 ≤ x.first ∧ x.first ≤ 32767
  long : ∀ y ∈ x.long, 0 ≤ y ∧ y ≤ 255
  js : ∀ j ∈ x.js, (0 ≤ j.later ∧ j.later ≤ 255) ∧ ∀ y ∈ j.lines, LvOk y
structure LightOk (x : BV) : Prop where
  chart : x.chart.length ≤ 20
  units : x.units.length ≤ 8
  long : x.long.length ≤ 8
  js : x.js.length ≤ 12
  lines : ∀ j ∈ x.js, j.lines.length ≤ 8
theorem light_ok (x : BV) (hl : x.js.length < 9223372036854775807) : Fn cfg 23 [bvP x] (fun q => ∃ b, q = boolP b ∧ (b = true → LightOk x)) := by
  refine Fn.go Tryz.func23 (L := [(0, _)]) rfl rfl rfl (by first | rfl | (simp [deepL, deepB, *]; done) | (simp [deepL, deepB, *]; rfl)) rfl ?_
  refine Ps.seq ?_
  refine Ps.region rfl ?_
  refine Rs.box (l := [_, _, _, _, _]) rfl rfl rfl (by first | rfl | simp [deepB, deepL, *]) rfl ?_
  refine Rs.assign (p := .lit _) rfl rfl ?_
  refine Rs.nil ?_
  refine Ps.thn ?_
  refine Ps.seq ?_
  refine Ps.seq ?_
  refine Ps.region rfl ?_
  first | refine Rs.fieldAddrD (off' := 4) rfl rfl rfl rfl ?_ | refine Rs.fieldAddrP (off' := 4) rfl rfl rfl rfl ?_
  refine Rs.loadD rfl rfl rfl rfl ?_
  first | refine Rs.lenD rfl rfl rfl rfl ?_ | refine Rs.lenO rfl rfl rfl rfl ?_ | refine Rs.lenI rfl rfl rfl rfl ?_ | refine Rs.lenA rfl rfl rfl rfl (by assumption) ?_ | refine Rs.lenS rfl rfl rfl rfl (by assumption) ?_
  refine Rs.move (p := .lit _) rfl rfl ?_
  refine Rs.nil ?_
  refine Ps.thn ?_
  refine Ps.block ?_
  -- loop 1 writes [2, 4, 8, 9, 10, 11, 12, 13, 14, 15, 16]
  refine Ps.loop (J := Nat) ⟨fun j => j ≤ x.js.length ∧ ∀ y ∈ x.js.take j, y.lines.length ≤ 8, fun j => [(8, i64P j)], fun _ => [], fun j => x.js.length - j⟩ [2, 4, 8, 9, 10, 11, 12, 13, 14, 15, 16] [(7, _), (6, _), (5, _), (1, _), (0, _)] 0 rfl ⟨Nat.zero_le _, by simp⟩ ⟨rfl, trivial⟩ (List.nil_sublist _) (fun j hj => ?_)
  obtain ⟨hj, hjc⟩ : j ≤ x.js.length ∧ ∀ y ∈ x.js.take j, y.lines.length ≤ 8 := hj
  dsimp only [List.cons_append, List.nil_append]
  refine Ps.seq ?_
  refine Ps.region rfl ?_
  refine Rs.binB rfl rfl rfl rfl rfl rfl ?_
  refine Rs.nil ?_
  refine Ps.thn ?_
  refine Ps.seq ?_
  refine Ps.if rfl (fun hc => ?_) (fun hc => ?_)
  · try (first | replace hc := D1 hc | replace hc := D2 hc | replace hc := D3 hc | replace hc := D4 hc | replace hc := D5 hc | replace hc := D6 hc | replace hc := D7 hc | replace hc := D8 hc | replace hc := D9 hc | replace hc := D10 hc)
    refine Ps.skip ?_
    refine Ps.thn ?_
    refine Ps.seq ?_
    refine Ps.block ?_
    refine Ps.seq ?_
    have hlt : j < x.js.length := by simp at hc; omega
    obtain ⟨y, hy⟩ := at_lt hlt
    refine Ps.region rfl ?_
    first | refine Rs.indexD (lc := [_, _]) rfl rfl rfl rfl rfl rfl (map_at hy) rfl ?_ | refine Rs.indexS (lc := [_, _]) rfl rfl rfl rfl rfl (by assumption) rfl (map_at hy) rfl ?_
    first | refine Rs.loadR (p := .agg [_, _]) rfl rfl rfl rfl ?_ | refine Rs.loadP (p := .agg [_, _]) 0 rfl rfl rfl rfl rfl ?_ | refine Rs.loadP (p := .agg [_, _]) 1 rfl rfl rfl rfl rfl ?_ | refine Rs.loadP (p := .agg [_, _]) 2 rfl rfl rfl rfl rfl ?_ | refine Rs.loadP (p := .agg [_, _]) 3 rfl rfl rfl rfl rfl ?_
    refine Rs.alloc (z := .agg [_, _]) (c := 2) rfl rfl rfl (fun g4 => ?_)
    first | refine Rs.store0 (l' := [.agg [_, _]]) rfl rfl rfl (by first | rfl | exact storeB_ag rfl rfl rfl (by simp [scalars, sc_int, sc_str, sc_bool, sc_nil, sc_dsl, sc_own, sc_g, sc_f, *]) | exact storeB_fld rfl (by first | assumption | exact cl_g | exact cl_f) (by first | assumption | exact sc_g | exact sc_f) rfl) ?_ | refine Rs.store1 (l' := [.agg [_, _]]) rfl rfl rfl (by first | rfl | exact storeB_ag rfl rfl rfl (by simp [scalars, sc_int, sc_str, sc_bool, sc_nil, sc_dsl, sc_own, sc_g, sc_f, *]) | exact storeB_fld rfl (by first | assumption | exact cl_g | exact cl_f) (by first | assumption | exact sc_g | exact sc_f) rfl) ?_ | refine Rs.store2 (l' := [.agg [_, _]]) rfl rfl rfl (by first | rfl | exact storeB_ag rfl rfl rfl (by simp [scalars, sc_int, sc_str, sc_bool, sc_nil, sc_dsl, sc_own, sc_g, sc_f, *]) | exact storeB_fld rfl (by first | assumption | exact cl_g | exact cl_f) (by first | assumption | exact sc_g | exact sc_f) rfl) ?_ | refine Rs.store3 (l' := [.agg [_, _]]) rfl rfl rfl (by first | rfl | exact storeB_ag rfl rfl rfl (by simp [scalars, sc_int, sc_str, sc_bool, sc_nil, sc_dsl, sc_own, sc_g, sc_f, *]) | exact storeB_fld rfl (by first | assumption | exact cl_g | exact cl_f) (by first | assumption | exact sc_g | exact sc_f) rfl) ?_
    refine Rs.nil ?_
    refine Ps.thn ?_
    refine Ps.seq ?_
    refine Ps.region rfl ?_
    first | refine Rs.fieldAddrD (off' := 1) rfl rfl rfl rfl ?_ | refine Rs.fieldAddrP (off' := 1) rfl rfl rfl rfl ?_
    first | refine Rs.loadR rfl rfl rfl rfl ?_ | refine Rs.loadP 0 rfl rfl rfl rfl rfl ?_ | refine Rs.loadP 1 rfl rfl rfl rfl rfl ?_ | refine Rs.loadP 2 rfl rfl rfl rfl rfl ?_ | refine Rs.loadP 3 rfl rfl rfl rfl rfl ?_
    first | refine Rs.lenD rfl rfl rfl rfl ?_ | refine Rs.lenO rfl rfl rfl rfl ?_ | refine Rs.lenI rfl rfl rfl rfl ?_ | refine Rs.lenA rfl rfl rfl rfl (by assumption) ?_ | refine Rs.lenS rfl rfl rfl rfl (by assumption) ?_
    refine Rs.binB rfl rfl rfl rfl rfl rfl ?_
    refine Rs.nil ?_
    refine Ps.thn ?_
    refine Ps.if rfl (fun hc => ?_) (fun hc => ?_)
    · try (first | replace hc := D1 hc | replace hc := D2 hc | replace hc := D3 hc | replace hc := D4 hc | replace hc := D5 hc | replace hc := D6 hc | replace hc := D7 hc | replace hc := D8 hc | replace hc := D9 hc | replace hc := D10 hc)
      refine Ps.seq ?_
      refine Ps.region rfl ?_
      refine Rs.assign (p := .lit _) rfl rfl ?_
      refine Rs.nil ?_
      refine Ps.thn ?_
      refine Ps.ret ?_
      refine Ps.blk_ret ?_
      refine Ps.thn_ret ?_
      refine Ps.rnd_ret ?_
      refine Ps.blk_ret ?_
      refine Ps.thn_ret ?_
      -- leaf 1 (ret)
      refine Ps.finP (l := [_]) rfl (by refine ResR.tmp rfl ?_; exact ResR.nil) (by first | rfl | simp [plainP, plainC, cp_lit, cp_dsl, *]) rfl ?_
      first
        | exact ⟨false, rfl, fun h => by cases h⟩
        | (refine ⟨_, rfl, fun h => ⟨?_, ?_, ?_, ?_, ?_⟩⟩ <;> first
            | (simp at hg; omega)
            | omega
            | (simp at *; omega)
            | (intro z hz; exact hjc z (by rw [List.take_of_length_le (by simp at *; omega)]; exact hz)))
    · try (first | replace hc := D1 hc | replace hc := D2 hc | replace hc := D3 hc | replace hc := D4 hc | replace hc := D5 hc | replace hc := D6 hc | replace hc := D7 hc | replace hc := D8 hc | replace hc := D9 hc | replace hc := D10 hc)
      refine Ps.skip ?_
      refine Ps.blk ?_
      refine Ps.thn ?_
      refine Ps.region rfl ?_
      refine Rs.add rfl rfl rfl (by first | exact W_i64s (by omega) | exact W_i64 (by omega) (by omega) | rfl) ?_
      refine Rs.move rfl rfl ?_
      refine Rs.nil ?_
      -- leaf 2 (round1)
      refine Ps.round (j + 1) ⟨hlt, ?_⟩ (by show x.js.length - (j + 1) < x.js.length - j; omega) ⟨rfl, trivial⟩ (by repeat' first | exact HasL.nil | refine HasL.cons rfl ?_) (by repeat' first | exact List.Sublist.refl _ | exact List.nil_sublist _ | exact List.sublist_append_left _ _ | refine List.Sublist.cons₂ _ ?_ | refine List.Sublist.cons _ ?_)
      intro z hz
      rw [List.take_add_one, hy] at hz
      rcases List.mem_append.1 hz with hz | hz
      · exact hjc z hz
      · simp at hz; subst hz; simp at hc; omega
  · try (first | replace hc := D1 hc | replace hc := D2 hc | replace hc := D3 hc | replace hc := D4 hc | replace hc := D5 hc | replace hc := D6 hc | replace hc := D7 hc | replace hc := D8 hc | replace hc := D9 hc | replace hc := D10 hc)
    refine Ps.exit ?_
    refine Ps.thn_exit ?_
    refine Ps.rnd_exit ?_
    refine Ps.blk_here ?_
    refine Ps.thn ?_
    refine Ps.seq ?_
    refine Ps.region rfl ?_
    first | refine Rs.fieldAddrD (off' := 0) rfl rfl rfl rfl ?_ | refine Rs.fieldAddrP (off' := 0) rfl rfl rfl rfl ?_
    refine Rs.loadD rfl rfl rfl rfl ?_
    first | refine Rs.lenD rfl rfl rfl rfl ?_ | refine Rs.lenO rfl rfl rfl rfl ?_ | refine Rs.lenI rfl rfl rfl rfl ?_ | refine Rs.lenA rfl rfl rfl rfl (by assumption) ?_ | refine Rs.lenS rfl rfl rfl rfl (by assumption) ?_
    refine Rs.binB rfl rfl rfl rfl rfl rfl ?_
    refine Rs.move rfl rfl ?_
    refine Rs.guard1 (w' := false) rfl rfl rfl (fun hg => ?_) (fun hg => ?_)
    · try (first | replace hg := D1 hg | replace hg := D2 hg | replace hg := D3 hg | replace hg := D4 hg | replace hg := D5 hg | replace hg := D6 hg | replace hg := D7 hg | replace hg := D8 hg | replace hg := D9 hg | replace hg := D10 hg)
      first | refine Rs.fieldAddrD (off' := 1) rfl rfl rfl rfl ?_ | refine Rs.fieldAddrP (off' := 1) rfl rfl rfl rfl ?_
      refine Rs.guardT rfl ?_
      refine Rs.loadD rfl rfl rfl rfl ?_
      refine Rs.guardT rfl ?_
      first | refine Rs.lenD rfl rfl rfl rfl ?_ | refine Rs.lenO rfl rfl rfl rfl ?_ | refine Rs.lenI rfl rfl rfl rfl ?_ | refine Rs.lenA rfl rfl rfl rfl (by assumption) ?_ | refine Rs.lenS rfl rfl rfl rfl (by assumption) ?_
      refine Rs.guardT rfl ?_
      refine Rs.binB rfl rfl rfl rfl rfl rfl ?_
      refine Rs.pickT (q := .lit _) rfl rfl rfl rfl ?_
      refine Rs.move rfl rfl ?_
      refine Rs.guard1 (w' := false) rfl rfl rfl (fun hg => ?_) (fun hg => ?_)
      · try (first | replace hg := D1 hg | replace hg := D2 hg | replace hg := D3 hg | replace hg := D4 hg | replace hg := D5 hg | replace hg := D6 hg | replace hg := D7 hg | replace hg := D8 hg | replace hg := D9 hg | replace hg := D10 hg)
        first | refine Rs.fieldAddrD (off' := 3) rfl rfl rfl rfl ?_ | refine Rs.fieldAddrP (off' := 3) rfl rfl rfl rfl ?_
        refine Rs.guardT rfl ?_
        refine Rs.loadD rfl rfl rfl rfl ?_
        refine Rs.guardT rfl ?_
        first | refine Rs.lenD rfl rfl rfl rfl ?_ | refine Rs.lenO rfl rfl rfl rfl ?_ | refine Rs.lenI rfl rfl rfl rfl ?_ | refine Rs.lenA rfl rfl rfl rfl (by assumption) ?_ | refine Rs.lenS rfl rfl rfl rfl (by assumption) ?_
        refine Rs.guardT rfl ?_
        refine Rs.binB rfl rfl rfl rfl rfl rfl ?_
        refine Rs.pickT (q := .lit _) rfl rfl rfl rfl ?_
        refine Rs.move rfl rfl ?_
        refine Rs.guard1 (w' := false) rfl rfl rfl (fun hg => ?_) (fun hg => ?_)
        · try (first | replace hg := D1 hg | replace hg := D2 hg | replace hg := D3 hg | replace hg := D4 hg | replace hg := D5 hg | replace hg := D6 hg | replace hg := D7 hg | replace hg := D8 hg | replace hg := D9 hg | replace hg := D10 hg)
          first | refine Rs.fieldAddrD (off' := 4) rfl rfl rfl rfl ?_ | refine Rs.fieldAddrP (off' := 4) rfl rfl rfl rfl ?_
          refine Rs.guardT rfl ?_
          refine Rs.loadD rfl rfl rfl rfl ?_
          refine Rs.guardT rfl ?_
          first | refine Rs.lenD rfl rfl rfl rfl ?_ | refine Rs.lenO rfl rfl rfl rfl ?_ | refine Rs.lenI rfl rfl rfl rfl ?_ | refine Rs.lenA rfl rfl rfl rfl (by assumption) ?_ | refine Rs.lenS rfl rfl rfl rfl (by assumption) ?_
          refine Rs.guardT rfl ?_
          refine Rs.binB rfl rfl rfl rfl rfl rfl ?_
          refine Rs.pickT (q := .lit _) rfl rfl rfl rfl ?_
          refine Rs.assign rfl rfl ?_
          refine Rs.nil ?_
          refine Ps.thn ?_
          refine Ps.ret ?_
          -- leaf 3 (ret)
          refine Ps.finP (l := [_]) rfl (by refine ResR.tmp rfl ?_; exact ResR.nil) (by first | rfl | simp [plainP, plainC, cp_lit, cp_dsl, *]) rfl ?_
          first
            | exact ⟨false, rfl, fun h => by cases h⟩
            | (refine ⟨_, rfl, fun h => ⟨?_, ?_, ?_, ?_, ?_⟩⟩ <;> first
                | (simp at hg; omega)
                | omega
                | (simp at *; omega)
                | (intro z hz; exact hjc z (by rw [List.take_of_length_le (by simp at *; omega)]; exact hz)))
        · try (first | replace hg := D1 hg | replace hg := D2 hg | replace hg := D3 hg | replace hg := D4 hg | replace hg := D5 hg | replace hg := D6 hg | replace hg := D7 hg | replace hg := D8 hg | replace hg := D9 hg | replace hg := D10 hg)
          refine Rs.guardF1 rfl rfl rfl ?_
          refine Rs.guardF1 rfl rfl rfl ?_
          refine Rs.guardF1 rfl rfl rfl ?_
          refine Rs.pickF (q := .lit _) rfl rfl rfl rfl ?_
          refine Rs.assign rfl rfl ?_
          refine Rs.nil ?_
          refine Ps.thn ?_
          refine Ps.ret ?_
          -- leaf 4 (ret)
          refine Ps.finP (l := [_]) rfl (by refine ResR.tmp rfl ?_; exact ResR.nil) (by first | rfl | simp [plainP, plainC, cp_lit, cp_dsl, *]) rfl ?_
          first
            | exact ⟨false, rfl, fun h => by cases h⟩
            | (refine ⟨_, rfl, fun h => ⟨?_, ?_, ?_, ?_, ?_⟩⟩ <;> first
                | (simp at hg; omega)
                | omega
                | (simp at *; omega)
                | (intro z hz; exact hjc z (by rw [List.take_of_length_le (by simp at *; omega)]; exact hz)))
      · try (first | replace hg := D1 hg | replace hg := D2 hg | replace hg := D3 hg | replace hg := D4 hg | replace hg := D5 hg | replace hg := D6 hg | replace hg := D7 hg | replace hg := D8 hg | replace hg := D9 hg | replace hg := D10 hg)
        refine Rs.guardF1 rfl rfl rfl ?_
        refine Rs.guardF1 rfl rfl rfl ?_
        refine Rs.guardF1 rfl rfl rfl ?_
        refine Rs.pickF (q := .lit _) rfl rfl rfl rfl ?_
        refine Rs.move rfl rfl ?_
        refine Rs.guardF1 rfl rfl rfl ?_
        refine Rs.guardF1 rfl rfl rfl ?_
        refine Rs.guardF1 rfl rfl rfl ?_
        refine Rs.guardF1 rfl rfl rfl ?_
        refine Rs.pickF (q := .lit _) rfl rfl rfl rfl ?_
        refine Rs.assign rfl rfl ?_
        refine Rs.nil ?_
        refine Ps.thn ?_
        refine Ps.ret ?_
        -- leaf 5 (ret)
        refine Ps.finP (l := [_]) rfl (by refine ResR.tmp rfl ?_; exact ResR.nil) (by first | rfl | simp [plainP, plainC, cp_lit, cp_dsl, *]) rfl ?_
        first
          | exact ⟨false, rfl, fun h => by cases h⟩
          | (refine ⟨_, rfl, fun h => ⟨?_, ?_, ?_, ?_, ?_⟩⟩ <;> first
              | (simp at hg; omega)
              | omega
              | (simp at *; omega)
              | (intro z hz; exact hjc z (by rw [List.take_of_length_le (by simp at *; omega)]; exact hz)))
    · try (first | replace hg := D1 hg | replace hg := D2 hg | replace hg := D3 hg | replace hg := D4 hg | replace hg := D5 hg | replace hg := D6 hg | replace hg := D7 hg | replace hg := D8 hg | replace hg := D9 hg | replace hg := D10 hg)
      refine Rs.guardF1 rfl rfl rfl ?_
      refine Rs.guardF1 rfl rfl rfl ?_
      refine Rs.guardF1 rfl rfl rfl ?_
      refine Rs.pickF (q := .lit _) rfl rfl rfl rfl ?_
      refine Rs.move rfl rfl ?_
      refine Rs.guardF1 rfl rfl rfl ?_
      refine Rs.guardF1 rfl rfl rfl ?_
      refine Rs.guardF1 rfl rfl rfl ?_
      refine Rs.guardF1 rfl rfl rfl ?_
      refine Rs.pickF (q := .lit _) rfl rfl rfl rfl ?_
      refine Rs.move rfl rfl ?_
      refine Rs.guardF1 rfl rfl rfl ?_
      refine Rs.guardF1 rfl rfl rfl ?_
      refine Rs.guardF1 rfl rfl rfl ?_
      refine Rs.guardF1 rfl rfl rfl ?_
      refine Rs.pickF (q := .lit _) rfl rfl rfl rfl ?_
      refine Rs.assign rfl rfl ?_
      refine Rs.nil ?_
      refine Ps.thn ?_
      refine Ps.ret ?_
      -- leaf 6 (ret)
      refine Ps.finP (l := [_]) rfl (by refine ResR.tmp rfl ?_; exact ResR.nil) (by first | rfl | simp [plainP, plainC, cp_lit, cp_dsl, *]) rfl ?_
      first
        | exact ⟨false, rfl, fun h => by cases h⟩
        | (refine ⟨_, rfl, fun h => ⟨?_, ?_, ?_, ?_, ?_⟩⟩ <;> first
            | (simp at hg; omega)
            | omega
            | (simp at *; omega)
            | (intro z hz; exact hjc z (by rw [List.take_of_length_le (by simp at *; omega)]; exact hz)))
structure FrameOk (a : Int) (ch : List Acc) (un st : List Int) (en : Int) : Prop where
  chart : Made ch
  chSome : ch ≠ []
  un_ : MadeU un
  unSome : un ≠ []
  cal : MadeC a st en
theorem cash_ok : Made [⟨7, ⟨#[67, 97, 115, 104]⟩, 0, 0⟩] := Made.nil.snoc (x := ⟨7, ⟨#[67, 97, 115, 104]⟩, 0, 0⟩) (by decide) (by decide) (by simp) (.inl rfl) ⟨⟨0, by omega⟩, rfl⟩ (by decide) (by decide)
def IsFr (a : Int) (q : PV) : Prop := ∃ ch un st en cp up sp, FrameOk a ch un st en ∧ IsSl 4 (ch.map accP) cp ∧ IsSl 1 (un.map u16P) up ∧ IsSl 1 (st.map i32P) sp ∧ q = .agg [cp, up, sp, i32P en]
theorem frame_ok (x : BV) (hw : BvOk x) (hl : LightOk x) : Fn cfg 24 [bvP x] (IsFr x.first) := by
  have hl1 := hl.chart
  have hl2 := hl.units
  have hl3 := hl.long
  refine Fn.go Tryz.func24 (L := [(0, _)]) rfl rfl rfl (by first | rfl | (simp [deepL, deepB, *]; done) | (simp [deepL, deepB, *]; rfl)) rfl ?_
  refine Ps.seq ?_
  refine Ps.region rfl ?_
  refine Rs.box (l := [_, _, _, _, _]) rfl rfl rfl (by first | rfl | simp [deepB, deepL, *]) rfl ?_
  refine Rs.alloc (z := .agg [_, _, _, _]) (c := 4) rfl rfl rfl (fun g2 => ?_)
  refine Rs.nil ?_
  refine Ps.thn ?_
  refine Ps.seq ?_
  refine Ps.region rfl ?_
  first | refine Rs.fieldAddrD (off' := 0) rfl rfl rfl rfl ?_ | refine Rs.fieldAddrP (off' := 0) rfl rfl rfl rfl ?_
  refine Rs.loadD rfl rfl rfl rfl ?_
  refine Rs.call0 rfl rfl rfl (make06_ok x.chart _ dsl_is (by omega) hw.src) (fun p6 hp => ?_)
  obtain ⟨ch, hch, _, rfl⟩ := hp
  obtain ⟨cd, cs, cc, cl, cq⟩ := (slP_is 4 (ch.map accP)).all
  have ci := slP_is 4 (ch.map accP)
  first | refine Rs.fieldAddrD (off' := 1) rfl rfl rfl rfl ?_ | refine Rs.fieldAddrP (off' := 1) rfl rfl rfl rfl ?_
  refine Rs.loadD rfl rfl rfl rfl ?_
  refine Rs.call0 rfl rfl rfl (make07_ok x.units _ dsl_is (by omega) hw.un) (fun p9 hp => ?_)
  obtain ⟨un, hun, _, rfl⟩ := hp
  obtain ⟨ud, us, uc, ul, uq⟩ := (slP_is 1 (un.map u16P)).all
  have ui := slP_is 1 (un.map u16P)
  first | refine Rs.fieldAddrD (off' := 2) rfl rfl rfl rfl ?_ | refine Rs.fieldAddrP (off' := 2) rfl rfl rfl rfl ?_
  refine Rs.loadD rfl rfl rfl rfl ?_
  first | refine Rs.fieldAddrD (off' := 3) rfl rfl rfl rfl ?_ | refine Rs.fieldAddrP (off' := 3) rfl rfl rfl rfl ?_
  refine Rs.loadD rfl rfl rfl rfl ?_
  refine Rs.call0 rfl rfl rfl (make08_ok x.first x.long _ dsl_is (by omega) hw.first hw.long) (fun p14 hp => ?_)
  obtain ⟨st, en, sp, hst, hsp, rfl⟩ := hp
  obtain ⟨sd, ss, sc, sl, sq⟩ := hsp.all
  refine Rs.buildB (cs := [(0, [_]), (1, [_]), (2, [_, _])]) (l := [_, _, _, _]) rfl rfl (by first | rfl | simp only [cellsOf, cc, uc, sc]; rfl) rfl ?_
  refine Rs.alloc (z := .agg [_, _, _, _]) (c := 4) rfl rfl rfl (fun g3 => ?_)
  first | refine Rs.store0 (l' := [.agg [_, _, _, _]]) rfl rfl rfl (by first | rfl | exact storeB_ag rfl rfl rfl (by simp [scalars, sc_int, sc_str, sc_bool, sc_nil, sc_dsl, sc_own, sc_g, sc_f, *]) | exact storeB_fld rfl (by first | assumption | exact cl_g | exact cl_f) (by first | assumption | exact sc_g | exact sc_f) rfl) ?_ | refine Rs.store1 (l' := [.agg [_, _, _, _]]) rfl rfl rfl (by first | rfl | exact storeB_ag rfl rfl rfl (by simp [scalars, sc_int, sc_str, sc_bool, sc_nil, sc_dsl, sc_own, sc_g, sc_f, *]) | exact storeB_fld rfl (by first | assumption | exact cl_g | exact cl_f) (by first | assumption | exact sc_g | exact sc_f) rfl) ?_ | refine Rs.store2 (l' := [.agg [_, _, _, _]]) rfl rfl rfl (by first | rfl | exact storeB_ag rfl rfl rfl (by simp [scalars, sc_int, sc_str, sc_bool, sc_nil, sc_dsl, sc_own, sc_g, sc_f, *]) | exact storeB_fld rfl (by first | assumption | exact cl_g | exact cl_f) (by first | assumption | exact sc_g | exact sc_f) rfl) ?_ | refine Rs.store3 (l' := [.agg [_, _, _, _]]) rfl rfl rfl (by first | rfl | exact storeB_ag rfl rfl rfl (by simp [scalars, sc_int, sc_str, sc_bool, sc_nil, sc_dsl, sc_own, sc_g, sc_f, *]) | exact storeB_fld rfl (by first | assumption | exact cl_g | exact cl_f) (by first | assumption | exact sc_g | exact sc_f) rfl) ?_
  refine Rs.nil ?_
  refine Ps.thn ?_
  refine Ps.seq ?_
  refine Ps.seq ?_
  refine Ps.region rfl ?_
  first | refine Rs.fieldAddrD (off' := 0) rfl rfl rfl rfl ?_ | refine Rs.fieldAddrP (off' := 0) rfl rfl rfl rfl ?_
  first | refine Rs.loadR rfl rfl rfl rfl ?_ | refine Rs.loadP 0 rfl rfl rfl rfl rfl ?_ | refine Rs.loadP 1 rfl rfl rfl rfl rfl ?_ | refine Rs.loadP 2 rfl rfl rfl rfl rfl ?_ | refine Rs.loadP 3 rfl rfl rfl rfl rfl ?_
  first | refine Rs.lenD rfl rfl rfl rfl ?_ | refine Rs.lenO rfl rfl rfl rfl ?_ | refine Rs.lenI rfl rfl rfl rfl ?_ | refine Rs.lenA rfl rfl rfl rfl (by assumption) ?_ | refine Rs.lenS rfl rfl rfl rfl (by assumption) ?_
  refine Rs.binB rfl rfl rfl rfl rfl rfl ?_
  refine Rs.nil ?_
  refine Ps.thn ?_
  refine Ps.if rfl (fun hc => ?_) (fun hc => ?_)
  · try (first | replace hc := D1 hc | replace hc := D2 hc | replace hc := D3 hc | replace hc := D4 hc | replace hc := D5 hc | replace hc := D6 hc | replace hc := D7 hc | replace hc := D8 hc | replace hc := D9 hc | replace hc := D10 hc)
    refine Ps.region rfl ?_
    refine Rs.buildB (cs := [(0, [_]), (1, [_])]) (l := [_, _, _, _]) rfl rfl (by first | rfl | simp only [cellsOf, cc, uc, sc]; rfl) rfl ?_
    refine Rs.buildSlice (l := [_]) rfl rfl rfl rfl (by first | rfl | simp [deepL, deepB, *]) ?_
    first | refine Rs.fieldAddrD (off' := 0) rfl rfl rfl rfl ?_ | refine Rs.fieldAddrP (off' := 0) rfl rfl rfl rfl ?_
    first | refine Rs.store0 (l' := [.agg [_, _, _, _]]) rfl rfl rfl (by first | rfl | exact storeB_ag rfl rfl rfl (by simp [scalars, sc_int, sc_str, sc_bool, sc_nil, sc_dsl, sc_own, sc_g, sc_f, *]) | exact storeB_fld rfl (by first | assumption | exact cl_g | exact cl_f) (by first | assumption | exact sc_g | exact sc_f) rfl) ?_ | refine Rs.store1 (l' := [.agg [_, _, _, _]]) rfl rfl rfl (by first | rfl | exact storeB_ag rfl rfl rfl (by simp [scalars, sc_int, sc_str, sc_bool, sc_nil, sc_dsl, sc_own, sc_g, sc_f, *]) | exact storeB_fld rfl (by first | assumption | exact cl_g | exact cl_f) (by first | assumption | exact sc_g | exact sc_f) rfl) ?_ | refine Rs.store2 (l' := [.agg [_, _, _, _]]) rfl rfl rfl (by first | rfl | exact storeB_ag rfl rfl rfl (by simp [scalars, sc_int, sc_str, sc_bool, sc_nil, sc_dsl, sc_own, sc_g, sc_f, *]) | exact storeB_fld rfl (by first | assumption | exact cl_g | exact cl_f) (by first | assumption | exact sc_g | exact sc_f) rfl) ?_ | refine Rs.store3 (l' := [.agg [_, _, _, _]]) rfl rfl rfl (by first | rfl | exact storeB_ag rfl rfl rfl (by simp [scalars, sc_int, sc_str, sc_bool, sc_nil, sc_dsl, sc_own, sc_g, sc_f, *]) | exact storeB_fld rfl (by first | assumption | exact cl_g | exact cl_f) (by first | assumption | exact sc_g | exact sc_f) rfl) ?_
    refine Rs.nil ?_
    refine Ps.thn ?_
    refine Ps.seq ?_
    refine Ps.seq ?_
    refine Ps.region rfl ?_
    first | refine Rs.fieldAddrD (off' := 1) rfl rfl rfl rfl ?_ | refine Rs.fieldAddrP (off' := 1) rfl rfl rfl rfl ?_
    first | refine Rs.loadR rfl rfl rfl rfl ?_ | refine Rs.loadP 0 rfl rfl rfl rfl rfl ?_ | refine Rs.loadP 1 rfl rfl rfl rfl rfl ?_ | refine Rs.loadP 2 rfl rfl rfl rfl rfl ?_ | refine Rs.loadP 3 rfl rfl rfl rfl rfl ?_
    first | refine Rs.lenD rfl rfl rfl rfl ?_ | refine Rs.lenO rfl rfl rfl rfl ?_ | refine Rs.lenI rfl rfl rfl rfl ?_ | refine Rs.lenA rfl rfl rfl rfl (by assumption) ?_ | refine Rs.lenS rfl rfl rfl rfl (by assumption) ?_
    refine Rs.binB rfl rfl rfl rfl rfl rfl ?_
    refine Rs.nil ?_
    refine Ps.thn ?_
    refine Ps.if rfl (fun hc => ?_) (fun hc => ?_)
    · try (first | replace hc := D1 hc | replace hc := D2 hc | replace hc := D3 hc | replace hc := D4 hc | replace hc := D5 hc | replace hc := D6 hc | replace hc := D7 hc | replace hc := D8 hc | replace hc := D9 hc | replace hc := D10 hc)
      refine Ps.region rfl ?_
      refine Rs.buildSlice (l := [_]) rfl rfl rfl rfl (by first | rfl | simp [deepL, deepB, *]) ?_
      first | refine Rs.fieldAddrD (off' := 1) rfl rfl rfl rfl ?_ | refine Rs.fieldAddrP (off' := 1) rfl rfl rfl rfl ?_
      first | refine Rs.store0 (l' := [.agg [_, _, _, _]]) rfl rfl rfl (by first | rfl | exact storeB_ag rfl rfl rfl (by simp [scalars, sc_int, sc_str, sc_bool, sc_nil, sc_dsl, sc_own, sc_g, sc_f, *]) | exact storeB_fld rfl (by first | assumption | exact cl_g | exact cl_f) (by first | assumption | exact sc_g | exact sc_f) rfl) ?_ | refine Rs.store1 (l' := [.agg [_, _, _, _]]) rfl rfl rfl (by first | rfl | exact storeB_ag rfl rfl rfl (by simp [scalars, sc_int, sc_str, sc_bool, sc_nil, sc_dsl, sc_own, sc_g, sc_f, *]) | exact storeB_fld rfl (by first | assumption | exact cl_g | exact cl_f) (by first | assumption | exact sc_g | exact sc_f) rfl) ?_ | refine Rs.store2 (l' := [.agg [_, _, _, _]]) rfl rfl rfl (by first | rfl | exact storeB_ag rfl rfl rfl (by simp [scalars, sc_int, sc_str, sc_bool, sc_nil, sc_dsl, sc_own, sc_g, sc_f, *]) | exact storeB_fld rfl (by first | assumption | exact cl_g | exact cl_f) (by first | assumption | exact sc_g | exact sc_f) rfl) ?_ | refine Rs.store3 (l' := [.agg [_, _, _, _]]) rfl rfl rfl (by first | rfl | exact storeB_ag rfl rfl rfl (by simp [scalars, sc_int, sc_str, sc_bool, sc_nil, sc_dsl, sc_own, sc_g, sc_f, *]) | exact storeB_fld rfl (by first | assumption | exact cl_g | exact cl_f) (by first | assumption | exact sc_g | exact sc_f) rfl) ?_
      refine Rs.nil ?_
      refine Ps.thn ?_
      refine Ps.seq ?_
      refine Ps.region rfl ?_
      first | refine Rs.loadR (p := .agg [_, _, _, _]) rfl rfl rfl rfl ?_ | refine Rs.loadP (p := .agg [_, _, _, _]) 0 rfl rfl rfl rfl rfl ?_ | refine Rs.loadP (p := .agg [_, _, _, _]) 1 rfl rfl rfl rfl rfl ?_ | refine Rs.loadP (p := .agg [_, _, _, _]) 2 rfl rfl rfl rfl rfl ?_ | refine Rs.loadP (p := .agg [_, _, _, _]) 3 rfl rfl rfl rfl rfl ?_
      first | refine Rs.store0 (l' := [.agg [_, _, _, _]]) rfl rfl rfl (by first | rfl | exact storeB_ag rfl rfl rfl (by simp [scalars, sc_int, sc_str, sc_bool, sc_nil, sc_dsl, sc_own, sc_g, sc_f, *]) | exact storeB_fld rfl (by first | assumption | exact cl_g | exact cl_f) (by first | assumption | exact sc_g | exact sc_f) rfl) ?_ | refine Rs.store1 (l' := [.agg [_, _, _, _]]) rfl rfl rfl (by first | rfl | exact storeB_ag rfl rfl rfl (by simp [scalars, sc_int, sc_str, sc_bool, sc_nil, sc_dsl, sc_own, sc_g, sc_f, *]) | exact storeB_fld rfl (by first | assumption | exact cl_g | exact cl_f) (by first | assumption | exact sc_g | exact sc_f) rfl) ?_ | refine Rs.store2 (l' := [.agg [_, _, _, _]]) rfl rfl rfl (by first | rfl | exact storeB_ag rfl rfl rfl (by simp [scalars, sc_int, sc_str, sc_bool, sc_nil, sc_dsl, sc_own, sc_g, sc_f, *]) | exact storeB_fld rfl (by first | assumption | exact cl_g | exact cl_f) (by first | assumption | exact sc_g | exact sc_f) rfl) ?_ | refine Rs.store3 (l' := [.agg [_, _, _, _]]) rfl rfl rfl (by first | rfl | exact storeB_ag rfl rfl rfl (by simp [scalars, sc_int, sc_str, sc_bool, sc_nil, sc_dsl, sc_own, sc_g, sc_f, *]) | exact storeB_fld rfl (by first | assumption | exact cl_g | exact cl_f) (by first | assumption | exact sc_g | exact sc_f) rfl) ?_
      refine Rs.nil ?_
      refine Ps.thn ?_
      refine Ps.ret ?_
      -- leaf 1 (ret)
      refine Ps.finP (l := [_]) rfl (by (first | refine ResR.cell (p := .agg [_, _, _, _]) 0 rfl rfl rfl ?_ | refine ResR.cell (p := .agg [_, _, _, _]) 1 rfl rfl rfl ?_ | refine ResR.cell (p := .agg [_, _, _, _]) 2 rfl rfl rfl ?_ | refine ResR.cell (p := .agg [_, _, _, _]) 3 rfl rfl rfl ?_); exact ResR.nil) (by first | rfl | simp [plainP, plainC, cp_lit, cp_dsl, *]) rfl ?_
      have hchn : ¬ ((ch.map accP).length : Int) = 0 → ch ≠ [] := fun h e => by subst e; simp at h
      have hunn : ¬ ((un.map u16P).length : Int) = 0 → un ≠ [] := fun h e => by subst e; simp at h
      have u5 : MadeU [5] := ⟨List.pairwise_singleton _ _, by simp⟩
      first
        | exact ⟨ch, un, st, en, _, _, sp, ⟨hch, hchn (by assumption), hun, hunn (by assumption), hst⟩, ci, ui, hsp, rfl⟩
        | exact ⟨ch, [5], st, en, _, _, sp, ⟨hch, hchn (by assumption), u5, by simp, hst⟩, ci, dsl_is, hsp, rfl⟩
        | exact ⟨[⟨7, ⟨#[67, 97, 115, 104]⟩, 0, 0⟩], un, st, en, _, _, sp, ⟨cash_ok, by simp, hun, hunn (by assumption), hst⟩, dsl_is, ui, hsp, rfl⟩
        | exact ⟨[⟨7, ⟨#[67, 97, 115, 104]⟩, 0, 0⟩], [5], st, en, _, _, sp, ⟨cash_ok, by simp, u5, by simp, hst⟩, dsl_is, dsl_is, hsp, rfl⟩
    · try (first | replace hc := D1 hc | replace hc := D2 hc | replace hc := D3 hc | replace hc := D4 hc | replace hc := D5 hc | replace hc := D6 hc | replace hc := D7 hc | replace hc := D8 hc | replace hc := D9 hc | replace hc := D10 hc)
      refine Ps.skip ?_
      refine Ps.thn ?_
      refine Ps.seq ?_
      refine Ps.region rfl ?_
      first | refine Rs.loadR (p := .agg [_, _, _, _]) rfl rfl rfl rfl ?_ | refine Rs.loadP (p := .agg [_, _, _, _]) 0 rfl rfl rfl rfl rfl ?_ | refine Rs.loadP (p := .agg [_, _, _, _]) 1 rfl rfl rfl rfl rfl ?_ | refine Rs.loadP (p := .agg [_, _, _, _]) 2 rfl rfl rfl rfl rfl ?_ | refine Rs.loadP (p := .agg [_, _, _, _]) 3 rfl rfl rfl rfl rfl ?_
      first | refine Rs.store0 (l' := [.agg [_, _, _, _]]) rfl rfl rfl (by first | rfl | exact storeB_ag rfl rfl rfl (by simp [scalars, sc_int, sc_str, sc_bool, sc_nil, sc_dsl, sc_own, sc_g, sc_f, *]) | exact storeB_fld rfl (by first | assumption | exact cl_g | exact cl_f) (by first | assumption | exact sc_g | exact sc_f) rfl) ?_ | refine Rs.store1 (l' := [.agg [_, _, _, _]]) rfl rfl rfl (by first | rfl | exact storeB_ag rfl rfl rfl (by simp [scalars, sc_int, sc_str, sc_bool, sc_nil, sc_dsl, sc_own, sc_g, sc_f, *]) | exact storeB_fld rfl (by first | assumption | exact cl_g | exact cl_f) (by first | assumption | exact sc_g | exact sc_f) rfl) ?_ | refine Rs.store2 (l' := [.agg [_, _, _, _]]) rfl rfl rfl (by first | rfl | exact storeB_ag rfl rfl rfl (by simp [scalars, sc_int, sc_str, sc_bool, sc_nil, sc_dsl, sc_own, sc_g, sc_f, *]) | exact storeB_fld rfl (by first | assumption | exact cl_g | exact cl_f) (by first | assumption | exact sc_g | exact sc_f) rfl) ?_ | refine Rs.store3 (l' := [.agg [_, _, _, _]]) rfl rfl rfl (by first | rfl | exact storeB_ag rfl rfl rfl (by simp [scalars, sc_int, sc_str, sc_bool, sc_nil, sc_dsl, sc_own, sc_g, sc_f, *]) | exact storeB_fld rfl (by first | assumption | exact cl_g | exact cl_f) (by first | assumption | exact sc_g | exact sc_f) rfl) ?_
      refine Rs.nil ?_
      refine Ps.thn ?_
      refine Ps.ret ?_
      -- leaf 2 (ret)
      refine Ps.finP (l := [_]) rfl (by (first | refine ResR.cell (p := .agg [_, _, _, _]) 0 rfl rfl rfl ?_ | refine ResR.cell (p := .agg [_, _, _, _]) 1 rfl rfl rfl ?_ | refine ResR.cell (p := .agg [_, _, _, _]) 2 rfl rfl rfl ?_ | refine ResR.cell (p := .agg [_, _, _, _]) 3 rfl rfl rfl ?_); exact ResR.nil) (by first | rfl | simp [plainP, plainC, cp_lit, cp_dsl, *]) rfl ?_
      have hchn : ¬ ((ch.map accP).length : Int) = 0 → ch ≠ [] := fun h e => by subst e; simp at h
      have hunn : ¬ ((un.map u16P).length : Int) = 0 → un ≠ [] := fun h e => by subst e; simp at h
      have u5 : MadeU [5] := ⟨List.pairwise_singleton _ _, by simp⟩
      first
        | exact ⟨ch, un, st, en, _, _, sp, ⟨hch, hchn (by assumption), hun, hunn (by assumption), hst⟩, ci, ui, hsp, rfl⟩
        | exact ⟨ch, [5], st, en, _, _, sp, ⟨hch, hchn (by assumption), u5, by simp, hst⟩, ci, dsl_is, hsp, rfl⟩
        | exact ⟨[⟨7, ⟨#[67, 97, 115, 104]⟩, 0, 0⟩], un, st, en, _, _, sp, ⟨cash_ok, by simp, hun, hunn (by assumption), hst⟩, dsl_is, ui, hsp, rfl⟩
        | exact ⟨[⟨7, ⟨#[67, 97, 115, 104]⟩, 0, 0⟩], [5], st, en, _, _, sp, ⟨cash_ok, by simp, u5, by simp, hst⟩, dsl_is, dsl_is, hsp, rfl⟩
  · try (first | replace hc := D1 hc | replace hc := D2 hc | replace hc := D3 hc | replace hc := D4 hc | replace hc := D5 hc | replace hc := D6 hc | replace hc := D7 hc | replace hc := D8 hc | replace hc := D9 hc | replace hc := D10 hc)
    refine Ps.skip ?_
    refine Ps.thn ?_
    refine Ps.seq ?_
    refine Ps.seq ?_
    refine Ps.region rfl ?_
    first | refine Rs.fieldAddrD (off' := 1) rfl rfl rfl rfl ?_ | refine Rs.fieldAddrP (off' := 1) rfl rfl rfl rfl ?_
    first | refine Rs.loadR rfl rfl rfl rfl ?_ | refine Rs.loadP 0 rfl rfl rfl rfl rfl ?_ | refine Rs.loadP 1 rfl rfl rfl rfl rfl ?_ | refine Rs.loadP 2 rfl rfl rfl rfl rfl ?_ | refine Rs.loadP 3 rfl rfl rfl rfl rfl ?_
    first | refine Rs.lenD rfl rfl rfl rfl ?_ | refine Rs.lenO rfl rfl rfl rfl ?_ | refine Rs.lenI rfl rfl rfl rfl ?_ | refine Rs.lenA rfl rfl rfl rfl (by assumption) ?_ | refine Rs.lenS rfl rfl rfl rfl (by assumption) ?_
    refine Rs.binB rfl rfl rfl rfl rfl rfl ?_
    refine Rs.nil ?_
    refine Ps.thn ?_
    refine Ps.if rfl (fun hc => ?_) (fun hc => ?_)
    · try (first | replace hc := D1 hc | replace hc := D2 hc | replace hc := D3 hc | replace hc := D4 hc | replace hc := D5 hc | replace hc := D6 hc | replace hc := D7 hc | replace hc := D8 hc | replace hc := D9 hc | replace hc := D10 hc)
      refine Ps.region rfl ?_
      refine Rs.buildSlice (l := [_]) rfl rfl rfl rfl (by first | rfl | simp [deepL, deepB, *]) ?_
      first | refine Rs.fieldAddrD (off' := 1) rfl rfl rfl rfl ?_ | refine Rs.fieldAddrP (off' := 1) rfl rfl rfl rfl ?_
      first | refine Rs.store0 (l' := [.agg [_, _, _, _]]) rfl rfl rfl (by first | rfl | exact storeB_ag rfl rfl rfl (by simp [scalars, sc_int, sc_str, sc_bool, sc_nil, sc_dsl, sc_own, sc_g, sc_f, *]) | exact storeB_fld rfl (by first | assumption | exact cl_g | exact cl_f) (by first | assumption | exact sc_g | exact sc_f) rfl) ?_ | refine Rs.store1 (l' := [.agg [_, _, _, _]]) rfl rfl rfl (by first | rfl | exact storeB_ag rfl rfl rfl (by simp [scalars, sc_int, sc_str, sc_bool, sc_nil, sc_dsl, sc_own, sc_g, sc_f, *]) | exact storeB_fld rfl (by first | assumption | exact cl_g | exact cl_f) (by first | assumption | exact sc_g | exact sc_f) rfl) ?_ | refine Rs.store2 (l' := [.agg [_, _, _, _]]) rfl rfl rfl (by first | rfl | exact storeB_ag rfl rfl rfl (by simp [scalars, sc_int, sc_str, sc_bool, sc_nil, sc_dsl, sc_own, sc_g, sc_f, *]) | exact storeB_fld rfl (by first | assumption | exact cl_g | exact cl_f) (by first | assumption | exact sc_g | exact sc_f) rfl) ?_ | refine Rs.store3 (l' := [.agg [_, _, _, _]]) rfl rfl rfl (by first | rfl | exact storeB_ag rfl rfl rfl (by simp [scalars, sc_int, sc_str, sc_bool, sc_nil, sc_dsl, sc_own, sc_g, sc_f, *]) | exact storeB_fld rfl (by first | assumption | exact cl_g | exact cl_f) (by first | assumption | exact sc_g | exact sc_f) rfl) ?_
      refine Rs.nil ?_
      refine Ps.thn ?_
      refine Ps.seq ?_
      refine Ps.region rfl ?_
      first | refine Rs.loadR (p := .agg [_, _, _, _]) rfl rfl rfl rfl ?_ | refine Rs.loadP (p := .agg [_, _, _, _]) 0 rfl rfl rfl rfl rfl ?_ | refine Rs.loadP (p := .agg [_, _, _, _]) 1 rfl rfl rfl rfl rfl ?_ | refine Rs.loadP (p := .agg [_, _, _, _]) 2 rfl rfl rfl rfl rfl ?_ | refine Rs.loadP (p := .agg [_, _, _, _]) 3 rfl rfl rfl rfl rfl ?_
      first | refine Rs.store0 (l' := [.agg [_, _, _, _]]) rfl rfl rfl (by first | rfl | exact storeB_ag rfl rfl rfl (by simp [scalars, sc_int, sc_str, sc_bool, sc_nil, sc_dsl, sc_own, sc_g, sc_f, *]) | exact storeB_fld rfl (by first | assumption | exact cl_g | exact cl_f) (by first | assumption | exact sc_g | exact sc_f) rfl) ?_ | refine Rs.store1 (l' := [.agg [_, _, _, _]]) rfl rfl rfl (by first | rfl | exact storeB_ag rfl rfl rfl (by simp [scalars, sc_int, sc_str, sc_bool, sc_nil, sc_dsl, sc_own, sc_g, sc_f, *]) | exact storeB_fld rfl (by first | assumption | exact cl_g | exact cl_f) (by first | assumption | exact sc_g | exact sc_f) rfl) ?_ | refine Rs.store2 (l' := [.agg [_, _, _, _]]) rfl rfl rfl (by first | rfl | exact storeB_ag rfl rfl rfl (by simp [scalars, sc_int, sc_str, sc_bool, sc_nil, sc_dsl, sc_own, sc_g, sc_f, *]) | exact storeB_fld rfl (by first | assumption | exact cl_g | exact cl_f) (by first | assumption | exact sc_g | exact sc_f) rfl) ?_ | refine Rs.store3 (l' := [.agg [_, _, _, _]]) rfl rfl rfl (by first | rfl | exact storeB_ag rfl rfl rfl (by simp [scalars, sc_int, sc_str, sc_bool, sc_nil, sc_dsl, sc_own, sc_g, sc_f, *]) | exact storeB_fld rfl (by first | assumption | exact cl_g | exact cl_f) (by first | assumption | exact sc_g | exact sc_f) rfl) ?_
      refine Rs.nil ?_
      refine Ps.thn ?_
      refine Ps.ret ?_
      -- leaf 3 (ret)
      refine Ps.finP (l := [_]) rfl (by (first | refine ResR.cell (p := .agg [_, _, _, _]) 0 rfl rfl rfl ?_ | refine ResR.cell (p := .agg [_, _, _, _]) 1 rfl rfl rfl ?_ | refine ResR.cell (p := .agg [_, _, _, _]) 2 rfl rfl rfl ?_ | refine ResR.cell (p := .agg [_, _, _, _]) 3 rfl rfl rfl ?_); exact ResR.nil) (by first | rfl | simp [plainP, plainC, cp_lit, cp_dsl, *]) rfl ?_
      have hchn : ¬ ((ch.map accP).length : Int) = 0 → ch ≠ [] := fun h e => by subst e; simp at h
      have hunn : ¬ ((un.map u16P).length : Int) = 0 → un ≠ [] := fun h e => by subst e; simp at h
      have u5 : MadeU [5] := ⟨List.pairwise_singleton _ _, by simp⟩
      first
        | exact ⟨ch, un, st, en, _, _, sp, ⟨hch, hchn (by assumption), hun, hunn (by assumption), hst⟩, ci, ui, hsp, rfl⟩
        | exact ⟨ch, [5], st, en, _, _, sp, ⟨hch, hchn (by assumption), u5, by simp, hst⟩, ci, dsl_is, hsp, rfl⟩
        | exact ⟨[⟨7, ⟨#[67, 97, 115, 104]⟩, 0, 0⟩], un, st, en, _, _, sp, ⟨cash_ok, by simp, hun, hunn (by assumption), hst⟩, dsl_is, ui, hsp, rfl⟩
        | exact ⟨[⟨7, ⟨#[67, 97, 115, 104]⟩, 0, 0⟩], [5], st, en, _, _, sp, ⟨cash_ok, by simp, u5, by simp, hst⟩, dsl_is, dsl_is, hsp, rfl⟩
    · try (first | replace hc := D1 hc | replace hc := D2 hc | replace hc := D3 hc | replace hc := D4 hc | replace hc := D5 hc | replace hc := D6 hc | replace hc := D7 hc | replace hc := D8 hc | replace hc := D9 hc | replace hc := D10 hc)
      refine Ps.skip ?_
      refine Ps.thn ?_
      refine Ps.seq ?_
      refine Ps.region rfl ?_
      first | refine Rs.loadR (p := .agg [_, _, _, _]) rfl rfl rfl rfl ?_ | refine Rs.loadP (p := .agg [_, _, _, _]) 0 rfl rfl rfl rfl rfl ?_ | refine Rs.loadP (p := .agg [_, _, _, _]) 1 rfl rfl rfl rfl rfl ?_ | refine Rs.loadP (p := .agg [_, _, _, _]) 2 rfl rfl rfl rfl rfl ?_ | refine Rs.loadP (p := .agg [_, _, _, _]) 3 rfl rfl rfl rfl rfl ?_
      first | refine Rs.store0 (l' := [.agg [_, _, _, _]]) rfl rfl rfl (by first | rfl | exact storeB_ag rfl rfl rfl (by simp [scalars, sc_int, sc_str, sc_bool, sc_nil, sc_dsl, sc_own, sc_g, sc_f, *]) | exact storeB_fld rfl (by first | assumption | exact cl_g | exact cl_f) (by first | assumption | exact sc_g | exact sc_f) rfl) ?_ | refine Rs.store1 (l' := [.agg [_, _, _, _]]) rfl rfl rfl (by first | rfl | exact storeB_ag rfl rfl rfl (by simp [scalars, sc_int, sc_str, sc_bool, sc_nil, sc_dsl, sc_own, sc_g, sc_f, *]) | exact storeB_fld rfl (by first | assumption | exact cl_g | exact cl_f) (by first | assumption | exact sc_g | exact sc_f) rfl) ?_ | refine Rs.store2 (l' := [.agg [_, _, _, _]]) rfl rfl rfl (by first | rfl | exact storeB_ag rfl rfl rfl (by simp [scalars, sc_int, sc_str, sc_bool, sc_nil, sc_dsl, sc_own, sc_g, sc_f, *]) | exact storeB_fld rfl (by first | assumption | exact cl_g | exact cl_f) (by first | assumption | exact sc_g | exact sc_f) rfl) ?_ | refine Rs.store3 (l' := [.agg [_, _, _, _]]) rfl rfl rfl (by first | rfl | exact storeB_ag rfl rfl rfl (by simp [scalars, sc_int, sc_str, sc_bool, sc_nil, sc_dsl, sc_own, sc_g, sc_f, *]) | exact storeB_fld rfl (by first | assumption | exact cl_g | exact cl_f) (by first | assumption | exact sc_g | exact sc_f) rfl) ?_
      refine Rs.nil ?_
      refine Ps.thn ?_
      refine Ps.ret ?_
      -- leaf 4 (ret)
      refine Ps.finP (l := [_]) rfl (by (first | refine ResR.cell (p := .agg [_, _, _, _]) 0 rfl rfl rfl ?_ | refine ResR.cell (p := .agg [_, _, _, _]) 1 rfl rfl rfl ?_ | refine ResR.cell (p := .agg [_, _, _, _]) 2 rfl rfl rfl ?_ | refine ResR.cell (p := .agg [_, _, _, _]) 3 rfl rfl rfl ?_); exact ResR.nil) (by first | rfl | simp [plainP, plainC, cp_lit, cp_dsl, *]) rfl ?_
      have hchn : ¬ ((ch.map accP).length : Int) = 0 → ch ≠ [] := fun h e => by subst e; simp at h
      have hunn : ¬ ((un.map u16P).length : Int) = 0 → un ≠ [] := fun h e => by subst e; simp at h
      have u5 : MadeU [5] := ⟨List.pairwise_singleton _ _, by simp⟩
      first
        | exact ⟨ch, un, st, en, _, _, sp, ⟨hch, hchn (by assumption), hun, hunn (by assumption), hst⟩, ci, ui, hsp, rfl⟩
        | exact ⟨ch, [5], st, en, _, _, sp, ⟨hch, hchn (by assumption), u5, by simp, hst⟩, ci, dsl_is, hsp, rfl⟩
        | exact ⟨[⟨7, ⟨#[67, 97, 115, 104]⟩, 0, 0⟩], un, st, en, _, _, sp, ⟨cash_ok, by simp, hun, hunn (by assumption), hst⟩, dsl_is, ui, hsp, rfl⟩
        | exact ⟨[⟨7, ⟨#[67, 97, 115, 104]⟩, 0, 0⟩], [5], st, en, _, _, sp, ⟨cash_ok, by simp, u5, by simp, hst⟩, dsl_is, dsl_is, hsp, rfl⟩
theorem pick_at {α : Type} (l : List α) (h : l ≠ []) (n : Int) (hn : 0 ≤ n) : ∃ q : Nat, n % (l.length : Int) = (q : Int) ∧ ∃ x, l[q]? = some x := by
  have hp := List.length_pos_iff.2 h
  have h1 := Int.emod_nonneg n (show (l.length : Int) ≠ 0 by omega)
  have h2 := Int.emod_lt_of_pos n (show (0 : Int) < l.length by omega)
  exact ⟨(n % (l.length : Int)).toNat, by omega, at_lt (by omega)⟩
/-- A line on accounts and entities that are there. -/
structure LnIn (ch : List Acc) (un : List Int) (l : Ln) : Prop where
  acc : ∃ a ∈ ch, a.code = l.acc
  ent : l.ent ∈ un
  ctr : l.ctr = 0 ∨ l.ctr ∈ un
theorem line_ok (y : LV) (hy : LvOk y) (ch : List Acc) (un st : List Int) (en : Int) (cp up sp : PV) (hcp : IsSl 4 (ch.map accP) cp) (hup : IsSl 1 (un.map u16P) up) (hsp : IsSl 1 (st.map i32P) sp) (hc0 : ch ≠ []) (hu0 : un ≠ []) (hcl : ch.length < 1000000) (hul : un.length < 1000000) :
    Fn cfg 25 [lvP y, .agg [cp, up, sp, i32P en]] (fun q => ∃ l, LnIn ch un l ∧ l.amt = y.amt ∧ q = lnP l) := by
  obtain ⟨cd, cs, cc, cl, cq⟩ := hcp.all
  obtain ⟨ud, us, uc, ul, uq⟩ := hup.all
  obtain ⟨sd, ss, sc, sl, sq⟩ := hsp.all
  obtain ⟨⟨h1, h2⟩, ⟨h3, h4⟩, ⟨h5, h6⟩, h7, h8⟩ := hy
  have hcp0 := List.length_pos_iff.2 hc0
  have hup0 := List.length_pos_iff.2 hu0
  have hcm : (ch.map accP).length = ch.length := List.length_map ..
  have hum : (un.map u16P).length = un.length := List.length_map ..
  refine Fn.go Tryz.func25 (L := [(0, _), (1, _)]) rfl rfl rfl (by first | rfl | (simp [deepL, deepB, *]; done) | (simp [deepL, deepB, *]; rfl)) rfl ?_
  refine Ps.seq ?_
  refine Ps.region rfl ?_
  refine Rs.box (l := [_, _, _, _]) rfl rfl rfl (by first | rfl | simp [deepB, deepL, *]) rfl ?_
  refine Rs.box (l := [_, _, _, _]) rfl rfl rfl (by first | rfl | simp [deepB, deepL, *]) rfl ?_
  refine Rs.alloc (z := .agg [_, _, _, _]) (c := 4) rfl rfl rfl (fun g4 => ?_)
  refine Rs.nil ?_
  refine Ps.thn ?_
  refine Ps.seq ?_
  obtain ⟨q, hq, z, hz⟩ := pick_at ch hc0 y.acc h1
  obtain ⟨r, hr, n, hn⟩ := pick_at un hu0 y.ent h3
  refine Ps.region rfl ?_
  first | refine Rs.fieldAddrD (off' := 0) rfl rfl rfl rfl ?_ | refine Rs.fieldAddrP (off' := 0) rfl rfl rfl rfl ?_
  refine Rs.loadD rfl rfl rfl rfl ?_
  first | refine Rs.fieldAddrD (off' := 0) rfl rfl rfl rfl ?_ | refine Rs.fieldAddrP (off' := 0) rfl rfl rfl rfl ?_
  refine Rs.loadD rfl rfl rfl rfl ?_
  refine Rs.convI rfl rfl ⟨_, rfl⟩ rfl rfl (by first | exact W_i64 (by omega) (by omega) | rfl) ?_
  first | refine Rs.fieldAddrD (off' := 0) rfl rfl rfl rfl ?_ | refine Rs.fieldAddrP (off' := 0) rfl rfl rfl rfl ?_
  refine Rs.loadD rfl rfl rfl rfl ?_
  first | refine Rs.lenD rfl rfl rfl rfl ?_ | refine Rs.lenO rfl rfl rfl rfl ?_ | refine Rs.lenI rfl rfl rfl rfl ?_ | refine Rs.lenA rfl rfl rfl rfl (by assumption) ?_ | refine Rs.lenS rfl rfl rfl rfl (by assumption) ?_
  refine Rs.rem rfl rfl rfl (by omega) (by first | exact Int.tmod_eq_emod_of_nonneg (by omega) | rfl) ?_
  first | refine Rs.indexD (lc := [_, _, _, _]) rfl rfl rfl rfl rfl (by rw [hcm]; exact hq) (map_at hz) rfl ?_ | refine Rs.indexS (lc := [_, _, _, _]) rfl rfl rfl rfl rfl (by assumption) (by rw [hcm]; exact hq) (map_at hz) rfl ?_
  first | refine Rs.fieldAddrD (off' := 0) rfl rfl rfl rfl ?_ | refine Rs.fieldAddrP (off' := 0) rfl rfl rfl rfl ?_
  first | refine Rs.loadR rfl rfl rfl rfl ?_ | refine Rs.loadP 0 rfl rfl rfl rfl rfl ?_ | refine Rs.loadP 1 rfl rfl rfl rfl rfl ?_ | refine Rs.loadP 2 rfl rfl rfl rfl rfl ?_ | refine Rs.loadP 3 rfl rfl rfl rfl rfl ?_
  first | refine Rs.fieldAddrD (off' := 1) rfl rfl rfl rfl ?_ | refine Rs.fieldAddrP (off' := 1) rfl rfl rfl rfl ?_
  refine Rs.loadD rfl rfl rfl rfl ?_
  first | refine Rs.fieldAddrD (off' := 1) rfl rfl rfl rfl ?_ | refine Rs.fieldAddrP (off' := 1) rfl rfl rfl rfl ?_
  refine Rs.loadD rfl rfl rfl rfl ?_
  refine Rs.convI rfl rfl ⟨_, rfl⟩ rfl rfl (by first | exact W_i64 (by omega) (by omega) | rfl) ?_
  first | refine Rs.fieldAddrD (off' := 1) rfl rfl rfl rfl ?_ | refine Rs.fieldAddrP (off' := 1) rfl rfl rfl rfl ?_
  refine Rs.loadD rfl rfl rfl rfl ?_
  first | refine Rs.lenD rfl rfl rfl rfl ?_ | refine Rs.lenO rfl rfl rfl rfl ?_ | refine Rs.lenI rfl rfl rfl rfl ?_ | refine Rs.lenA rfl rfl rfl rfl (by assumption) ?_ | refine Rs.lenS rfl rfl rfl rfl (by assumption) ?_
  refine Rs.rem rfl rfl rfl (by omega) (by first | exact Int.tmod_eq_emod_of_nonneg (by omega) | rfl) ?_
  first | refine Rs.indexD (lc := [_]) rfl rfl rfl rfl rfl (by rw [hum]; exact hr) (map_at hn) rfl ?_ | refine Rs.indexS (lc := [_]) rfl rfl rfl rfl rfl (by assumption) (by rw [hum]; exact hr) (map_at hn) rfl ?_
  first | refine Rs.loadR rfl rfl rfl rfl ?_ | refine Rs.loadP 0 rfl rfl rfl rfl rfl ?_ | refine Rs.loadP 1 rfl rfl rfl rfl rfl ?_ | refine Rs.loadP 2 rfl rfl rfl rfl rfl ?_ | refine Rs.loadP 3 rfl rfl rfl rfl rfl ?_
  first | refine Rs.fieldAddrD (off' := 3) rfl rfl rfl rfl ?_ | refine Rs.fieldAddrP (off' := 3) rfl rfl rfl rfl ?_
  refine Rs.loadD rfl rfl rfl rfl ?_
  refine Rs.buildB (cs := [(0, [_]), (1, [_]), (3, [_])]) (l := [_, _, _, _]) rfl rfl (by first | rfl | simp only [cellsOf]; rfl) rfl ?_
  refine Rs.alloc (z := .agg [_, _, _, _]) (c := 4) rfl rfl rfl (fun g5 => ?_)
  first | refine Rs.store0 (l' := [.agg [_, _, _, _]]) rfl rfl rfl (by first | rfl | exact storeB_ag rfl rfl rfl (by simp [scalars, sc_int, sc_str, sc_bool, sc_nil, sc_dsl, sc_own, sc_g, sc_f, *]) | exact storeB_fld rfl (by first | assumption | exact cl_g | exact cl_f) (by first | assumption | exact sc_g | exact sc_f) rfl) ?_ | refine Rs.store1 (l' := [.agg [_, _, _, _]]) rfl rfl rfl (by first | rfl | exact storeB_ag rfl rfl rfl (by simp [scalars, sc_int, sc_str, sc_bool, sc_nil, sc_dsl, sc_own, sc_g, sc_f, *]) | exact storeB_fld rfl (by first | assumption | exact cl_g | exact cl_f) (by first | assumption | exact sc_g | exact sc_f) rfl) ?_ | refine Rs.store2 (l' := [.agg [_, _, _, _]]) rfl rfl rfl (by first | rfl | exact storeB_ag rfl rfl rfl (by simp [scalars, sc_int, sc_str, sc_bool, sc_nil, sc_dsl, sc_own, sc_g, sc_f, *]) | exact storeB_fld rfl (by first | assumption | exact cl_g | exact cl_f) (by first | assumption | exact sc_g | exact sc_f) rfl) ?_ | refine Rs.store3 (l' := [.agg [_, _, _, _]]) rfl rfl rfl (by first | rfl | exact storeB_ag rfl rfl rfl (by simp [scalars, sc_int, sc_str, sc_bool, sc_nil, sc_dsl, sc_own, sc_g, sc_f, *]) | exact storeB_fld rfl (by first | assumption | exact cl_g | exact cl_f) (by first | assumption | exact sc_g | exact sc_f) rfl) ?_
  refine Rs.nil ?_
  refine Ps.thn ?_
  refine Ps.seq ?_
  refine Ps.seq ?_
  refine Ps.region rfl ?_
  first | refine Rs.fieldAddrD (off' := 2) rfl rfl rfl rfl ?_ | refine Rs.fieldAddrP (off' := 2) rfl rfl rfl rfl ?_
  refine Rs.loadD rfl rfl rfl rfl ?_
  refine Rs.rem rfl rfl rfl (by omega) (by first | exact Int.tmod_eq_emod_of_nonneg (by omega) | rfl) ?_
  refine Rs.binB rfl rfl rfl rfl rfl rfl ?_
  refine Rs.nil ?_
  refine Ps.thn ?_
  refine Ps.if rfl (fun hc => ?_) (fun hc => ?_)
  · try (first | replace hc := D1 hc | replace hc := D2 hc | replace hc := D3 hc | replace hc := D4 hc | replace hc := D5 hc | replace hc := D6 hc | replace hc := D7 hc | replace hc := D8 hc | replace hc := D9 hc | replace hc := D10 hc)
    obtain ⟨r2, hr2, n2, hn2⟩ := pick_at un hu0 (y.ctr / 2) (by omega)
    refine Ps.region rfl ?_
    first | refine Rs.fieldAddrD (off' := 1) rfl rfl rfl rfl ?_ | refine Rs.fieldAddrP (off' := 1) rfl rfl rfl rfl ?_
    refine Rs.loadD rfl rfl rfl rfl ?_
    first | refine Rs.fieldAddrD (off' := 2) rfl rfl rfl rfl ?_ | refine Rs.fieldAddrP (off' := 2) rfl rfl rfl rfl ?_
    refine Rs.loadD rfl rfl rfl rfl ?_
    refine Rs.quo rfl rfl rfl (by omega) (by first | exact Q_u8 (by omega) (by omega) (by omega) | rfl) ?_
    refine Rs.convI rfl rfl ⟨_, rfl⟩ rfl rfl (by first | exact W_i64 (by omega) (by omega) | rfl) ?_
    first | refine Rs.fieldAddrD (off' := 1) rfl rfl rfl rfl ?_ | refine Rs.fieldAddrP (off' := 1) rfl rfl rfl rfl ?_
    refine Rs.loadD rfl rfl rfl rfl ?_
    first | refine Rs.lenD rfl rfl rfl rfl ?_ | refine Rs.lenO rfl rfl rfl rfl ?_ | refine Rs.lenI rfl rfl rfl rfl ?_ | refine Rs.lenA rfl rfl rfl rfl (by assumption) ?_ | refine Rs.lenS rfl rfl rfl rfl (by assumption) ?_
    refine Rs.rem rfl rfl rfl (by omega) (by first | exact Int.tmod_eq_emod_of_nonneg (by omega) | rfl) ?_
    first | refine Rs.indexD (lc := [_]) rfl rfl rfl rfl rfl (by rw [hum]; exact hr2) (map_at hn2) rfl ?_ | refine Rs.indexS (lc := [_]) rfl rfl rfl rfl rfl (by assumption) (by rw [hum]; exact hr2) (map_at hn2) rfl ?_
    first | refine Rs.loadR rfl rfl rfl rfl ?_ | refine Rs.loadP 0 rfl rfl rfl rfl rfl ?_ | refine Rs.loadP 1 rfl rfl rfl rfl rfl ?_ | refine Rs.loadP 2 rfl rfl rfl rfl rfl ?_ | refine Rs.loadP 3 rfl rfl rfl rfl rfl ?_
    first | refine Rs.fieldAddrD (off' := 2) rfl rfl rfl rfl ?_ | refine Rs.fieldAddrP (off' := 2) rfl rfl rfl rfl ?_
    first | refine Rs.store0 (l' := [.agg [_, _, _, _]]) rfl rfl rfl (by first | rfl | exact storeB_ag rfl rfl rfl (by simp [scalars, sc_int, sc_str, sc_bool, sc_nil, sc_dsl, sc_own, sc_g, sc_f, *]) | exact storeB_fld rfl (by first | assumption | exact cl_g | exact cl_f) (by first | assumption | exact sc_g | exact sc_f) rfl) ?_ | refine Rs.store1 (l' := [.agg [_, _, _, _]]) rfl rfl rfl (by first | rfl | exact storeB_ag rfl rfl rfl (by simp [scalars, sc_int, sc_str, sc_bool, sc_nil, sc_dsl, sc_own, sc_g, sc_f, *]) | exact storeB_fld rfl (by first | assumption | exact cl_g | exact cl_f) (by first | assumption | exact sc_g | exact sc_f) rfl) ?_ | refine Rs.store2 (l' := [.agg [_, _, _, _]]) rfl rfl rfl (by first | rfl | exact storeB_ag rfl rfl rfl (by simp [scalars, sc_int, sc_str, sc_bool, sc_nil, sc_dsl, sc_own, sc_g, sc_f, *]) | exact storeB_fld rfl (by first | assumption | exact cl_g | exact cl_f) (by first | assumption | exact sc_g | exact sc_f) rfl) ?_ | refine Rs.store3 (l' := [.agg [_, _, _, _]]) rfl rfl rfl (by first | rfl | exact storeB_ag rfl rfl rfl (by simp [scalars, sc_int, sc_str, sc_bool, sc_nil, sc_dsl, sc_own, sc_g, sc_f, *]) | exact storeB_fld rfl (by first | assumption | exact cl_g | exact cl_f) (by first | assumption | exact sc_g | exact sc_f) rfl) ?_
    refine Rs.nil ?_
    refine Ps.thn ?_
    refine Ps.seq ?_
    refine Ps.region rfl ?_
    first | refine Rs.loadR (p := .agg [_, _, _, _]) rfl rfl rfl rfl ?_ | refine Rs.loadP (p := .agg [_, _, _, _]) 0 rfl rfl rfl rfl rfl ?_ | refine Rs.loadP (p := .agg [_, _, _, _]) 1 rfl rfl rfl rfl rfl ?_ | refine Rs.loadP (p := .agg [_, _, _, _]) 2 rfl rfl rfl rfl rfl ?_ | refine Rs.loadP (p := .agg [_, _, _, _]) 3 rfl rfl rfl rfl rfl ?_
    first | refine Rs.store0 (l' := [.agg [_, _, _, _]]) rfl rfl rfl (by first | rfl | exact storeB_ag rfl rfl rfl (by simp [scalars, sc_int, sc_str, sc_bool, sc_nil, sc_dsl, sc_own, sc_g, sc_f, *]) | exact storeB_fld rfl (by first | assumption | exact cl_g | exact cl_f) (by first | assumption | exact sc_g | exact sc_f) rfl) ?_ | refine Rs.store1 (l' := [.agg [_, _, _, _]]) rfl rfl rfl (by first | rfl | exact storeB_ag rfl rfl rfl (by simp [scalars, sc_int, sc_str, sc_bool, sc_nil, sc_dsl, sc_own, sc_g, sc_f, *]) | exact storeB_fld rfl (by first | assumption | exact cl_g | exact cl_f) (by first | assumption | exact sc_g | exact sc_f) rfl) ?_ | refine Rs.store2 (l' := [.agg [_, _, _, _]]) rfl rfl rfl (by first | rfl | exact storeB_ag rfl rfl rfl (by simp [scalars, sc_int, sc_str, sc_bool, sc_nil, sc_dsl, sc_own, sc_g, sc_f, *]) | exact storeB_fld rfl (by first | assumption | exact cl_g | exact cl_f) (by first | assumption | exact sc_g | exact sc_f) rfl) ?_ | refine Rs.store3 (l' := [.agg [_, _, _, _]]) rfl rfl rfl (by first | rfl | exact storeB_ag rfl rfl rfl (by simp [scalars, sc_int, sc_str, sc_bool, sc_nil, sc_dsl, sc_own, sc_g, sc_f, *]) | exact storeB_fld rfl (by first | assumption | exact cl_g | exact cl_f) (by first | assumption | exact sc_g | exact sc_f) rfl) ?_
    refine Rs.nil ?_
    refine Ps.thn ?_
    refine Ps.ret ?_
    -- leaf 1 (ret)
    refine Ps.finP (l := [_]) rfl (by (first | refine ResR.cell (p := .agg [_, _, _, _]) 0 rfl rfl rfl ?_ | refine ResR.cell (p := .agg [_, _, _, _]) 1 rfl rfl rfl ?_ | refine ResR.cell (p := .agg [_, _, _, _]) 2 rfl rfl rfl ?_ | refine ResR.cell (p := .agg [_, _, _, _]) 3 rfl rfl rfl ?_); exact ResR.nil) (by first | rfl | simp [plainP, plainC, cp_lit, cp_dsl, *]) rfl ?_
    first
      | exact ⟨⟨z.code, n, n2, y.amt⟩, ⟨⟨z, List.mem_of_getElem? hz, rfl⟩, List.mem_of_getElem? hn, .inr (List.mem_of_getElem? hn2)⟩, rfl, rfl⟩
      | exact ⟨⟨z.code, n, 0, y.amt⟩, ⟨⟨z, List.mem_of_getElem? hz, rfl⟩, List.mem_of_getElem? hn, .inl rfl⟩, rfl, rfl⟩
  · try (first | replace hc := D1 hc | replace hc := D2 hc | replace hc := D3 hc | replace hc := D4 hc | replace hc := D5 hc | replace hc := D6 hc | replace hc := D7 hc | replace hc := D8 hc | replace hc := D9 hc | replace hc := D10 hc)
    refine Ps.skip ?_
    refine Ps.thn ?_
    refine Ps.seq ?_
    refine Ps.region rfl ?_
    first | refine Rs.loadR (p := .agg [_, _, _, _]) rfl rfl rfl rfl ?_ | refine Rs.loadP (p := .agg [_, _, _, _]) 0 rfl rfl rfl rfl rfl ?_ | refine Rs.loadP (p := .agg [_, _, _, _]) 1 rfl rfl rfl rfl rfl ?_ | refine Rs.loadP (p := .agg [_, _, _, _]) 2 rfl rfl rfl rfl rfl ?_ | refine Rs.loadP (p := .agg [_, _, _, _]) 3 rfl rfl rfl rfl rfl ?_
    first | refine Rs.store0 (l' := [.agg [_, _, _, _]]) rfl rfl rfl (by first | rfl | exact storeB_ag rfl rfl rfl (by simp [scalars, sc_int, sc_str, sc_bool, sc_nil, sc_dsl, sc_own, sc_g, sc_f, *]) | exact storeB_fld rfl (by first | assumption | exact cl_g | exact cl_f) (by first | assumption | exact sc_g | exact sc_f) rfl) ?_ | refine Rs.store1 (l' := [.agg [_, _, _, _]]) rfl rfl rfl (by first | rfl | exact storeB_ag rfl rfl rfl (by simp [scalars, sc_int, sc_str, sc_bool, sc_nil, sc_dsl, sc_own, sc_g, sc_f, *]) | exact storeB_fld rfl (by first | assumption | exact cl_g | exact cl_f) (by first | assumption | exact sc_g | exact sc_f) rfl) ?_ | refine Rs.store2 (l' := [.agg [_, _, _, _]]) rfl rfl rfl (by first | rfl | exact storeB_ag rfl rfl rfl (by simp [scalars, sc_int, sc_str, sc_bool, sc_nil, sc_dsl, sc_own, sc_g, sc_f, *]) | exact storeB_fld rfl (by first | assumption | exact cl_g | exact cl_f) (by first | assumption | exact sc_g | exact sc_f) rfl) ?_ | refine Rs.store3 (l' := [.agg [_, _, _, _]]) rfl rfl rfl (by first | rfl | exact storeB_ag rfl rfl rfl (by simp [scalars, sc_int, sc_str, sc_bool, sc_nil, sc_dsl, sc_own, sc_g, sc_f, *]) | exact storeB_fld rfl (by first | assumption | exact cl_g | exact cl_f) (by first | assumption | exact sc_g | exact sc_f) rfl) ?_
    refine Rs.nil ?_
    refine Ps.thn ?_
    refine Ps.ret ?_
    -- leaf 2 (ret)
    refine Ps.finP (l := [_]) rfl (by (first | refine ResR.cell (p := .agg [_, _, _, _]) 0 rfl rfl rfl ?_ | refine ResR.cell (p := .agg [_, _, _, _]) 1 rfl rfl rfl ?_ | refine ResR.cell (p := .agg [_, _, _, _]) 2 rfl rfl rfl ?_ | refine ResR.cell (p := .agg [_, _, _, _]) 3 rfl rfl rfl ?_); exact ResR.nil) (by first | rfl | simp [plainP, plainC, cp_lit, cp_dsl, *]) rfl ?_
    first
      | exact ⟨⟨z.code, n, n2, y.amt⟩, ⟨⟨z, List.mem_of_getElem? hz, rfl⟩, List.mem_of_getElem? hn, .inr (List.mem_of_getElem? hn2)⟩, rfl, rfl⟩
      | exact ⟨⟨z.code, n, 0, y.amt⟩, ⟨⟨z, List.mem_of_getElem? hz, rfl⟩, List.mem_of_getElem? hn, .inl rfl⟩, rfl, rfl⟩
end Go.Proofs.YtddaogebacigbaaGreatDoor.RV.T
