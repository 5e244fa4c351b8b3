/- A part of the symbolic runs of functions by the evaluator (TB9). Conditions: none. -/
import Derived.Test.YtddaogebacigbaaGreatDoorSb8
import Derived.Test.YtddaogebacigbaaGreatDoorSb7
import Derived.Test.YtddaogebacigbaaGreatDoorSb6
import Derived.Test.YtddaogebacigbaaGreatDoorSb5
import Derived.Test.YtddaogebacigbaaGreatDoorSb4
import Derived.Test.YtddaogebacigbaaGreatDoorSb3
import Derived.Test.YtddaogebacigbaaGreatDoorSb2
import Derived.Test.YtddaogebacigbaaGreatDoorSb1
import Derived.Test.YtddaogebacigbaaGreatDoorSvK
import Derived.Test.YtddaogebacigbaaGreatDoorSvS
open Go Go.Proofs.YtddaogebacigbaaGreatDoor.RV Go.Proofs.YtddaogebacigbaaGreatDoor.XA.Awk Go.Proofs.YtddaogebacigbaaGreatDoor.RV.ChartMath Go.Proofs
namespace Go.Proofs.YtddaogebacigbaaGreatDoor.RV.T
set_option maxRecDepth 100000
set_option linter.unusedVariables false
set_option linter.unusedSimpArgs false
theorem day_between {js : List Jn} (h : js.Pairwise (fun x y => x.day ≤ y.day)) {f l : Jn} (hf : js.head? = some f) (hl : js.getLast? = some l) : ∀ y ∈ js, f.day ≤ y.day ∧ y.day ≤ l.day := by
  intro y hy
  constructor
  · cases js with
    | nil => cases hy
    | cons a r =>
      cases hf
      rcases List.mem_cons.1 hy with rfl | hy
      · exact Int.le_refl _
      · exact (List.pairwise_cons.1 h).1 y hy
  · obtain ⟨r, rfl⟩ := List.getLast?_eq_some_iff.1 hl
    rcases List.mem_append.1 hy with hy | hy
    · exact (List.pairwise_append.1 h).2.2 y hy l (by simp)
    · rw [List.mem_singleton.1 hy]; exact Int.le_refl _
theorem bookDays_ok (hA : Fn cfg 22 [] (· = boolP true)) (x : BV) (hw : BvOk x) (hx : x.js.length < 9223372036854775807) : Fn cfg 8 [bvP x] (· = boolP true) := by
  refine Fn.go Tryz.func8 (L := [(0, _)]) rfl rfl rfl (by first | rfl | (simp [deepL, deepB, *]; done) | (simp [deepL, deepB, *]; rfl)) rfl ?_
  refine Ps.seq ?_
  refine Ps.region rfl ?_
  refine Rs.box (l := [_, _, _, _, _]) rfl rfl rfl (by first | rfl | simp [deepB, deepL, *]) rfl ?_
  refine Rs.assign (p := .lit _) rfl rfl ?_
  refine Rs.nil ?_
  refine Ps.thn ?_
  refine Ps.seq ?_
  refine Ps.seq ?_
  refine Ps.region rfl ?_
  refine Rs.call0 rfl rfl rfl (hA) (fun p9 hp => ?_)
  obtain rfl := hp
  refine Rs.not rfl rfl ?_
  refine Rs.nil ?_
  refine Ps.thn ?_
  refine Ps.if rfl (fun hc => ?_) (fun hc => ?_)
  · try (first | replace hc := D1 hc | replace hc := D2 hc | replace hc := D3 hc | replace hc := D4 hc | replace hc := D5 hc | replace hc := D6 hc | replace hc := D7 hc | replace hc := D8 hc | replace hc := D9 hc | replace hc := D10 hc)
    refine Ps.seq ?_
    refine Ps.region rfl ?_
    refine Rs.assign (p := .lit _) rfl rfl ?_
    refine Rs.nil ?_
    refine Ps.thn ?_
    refine Ps.ret ?_
    refine Ps.thn_ret ?_
    -- leaf 1 (ret)
    refine Ps.finP (l := [_]) rfl (by refine ResR.tmp rfl ?_; exact ResR.nil) (by first | rfl | simp [plainP, plainC, cp_lit, cp_dsl, *]) rfl ?_
    clear hA hw
    first
      | rfl
      | (exfalso; simp at hc; done)
      | (exfalso; simp at hg; done)
      | (simp_all [one]; done)
      | trace_state
  · try (first | replace hc := D1 hc | replace hc := D2 hc | replace hc := D3 hc | replace hc := D4 hc | replace hc := D5 hc | replace hc := D6 hc | replace hc := D7 hc | replace hc := D8 hc | replace hc := D9 hc | replace hc := D10 hc)
    refine Ps.skip ?_
    refine Ps.thn ?_
    refine Ps.seq ?_
    refine Ps.seq ?_
    refine Ps.region rfl ?_
    refine Rs.loadD (p := .agg [_, _, _, _, _]) rfl rfl rfl rfl ?_
    refine Rs.call0 rfl rfl rfl (light_ok x hx) (fun p12 hp => ?_)
    obtain ⟨bl, rfl, hbl⟩ := hp
    refine Rs.not rfl rfl ?_
    refine Rs.nil ?_
    refine Ps.thn ?_
    refine Ps.if rfl (fun hc => ?_) (fun hc => ?_)
    · try (first | replace hc := D1 hc | replace hc := D2 hc | replace hc := D3 hc | replace hc := D4 hc | replace hc := D5 hc | replace hc := D6 hc | replace hc := D7 hc | replace hc := D8 hc | replace hc := D9 hc | replace hc := D10 hc)
      refine Ps.seq ?_
      refine Ps.region rfl ?_
      refine Rs.assign (p := .lit _) rfl rfl ?_
      refine Rs.nil ?_
      refine Ps.thn ?_
      refine Ps.ret ?_
      refine Ps.thn_ret ?_
      -- leaf 2 (ret)
      refine Ps.finP (l := [_]) rfl (by refine ResR.tmp rfl ?_; exact ResR.nil) (by first | rfl | simp [plainP, plainC, cp_lit, cp_dsl, *]) rfl ?_
      clear hA hw
      first
        | rfl
        | (exfalso; simp at hc; done)
        | (exfalso; simp at hg; done)
        | (simp_all [one]; done)
        | trace_state
    · try (first | replace hc := D1 hc | replace hc := D2 hc | replace hc := D3 hc | replace hc := D4 hc | replace hc := D5 hc | replace hc := D6 hc | replace hc := D7 hc | replace hc := D8 hc | replace hc := D9 hc | replace hc := D10 hc)
      refine Ps.skip ?_
      refine Ps.thn ?_
      refine Ps.seq ?_
      have hl := hbl (by simpa using hc)
      refine Ps.region rfl ?_
      refine Rs.loadD (p := .agg [_, _, _, _, _]) rfl rfl rfl rfl ?_
      refine Rs.call0 rfl rfl rfl (make10_ok x hw hl) (fun p15 hp => ?_)
      obtain ⟨ch, un, st, en, js, cp, up, sp, hB, hcp, hup, hsp, rfl⟩ := hp
      obtain ⟨cd, cs, cc, cl, cq⟩ := hcp.all
      obtain ⟨ud, us, uc, ul, uq⟩ := hup.all
      obtain ⟨sd, ss, sc, sl, sq⟩ := hsp.all
      have ji := slP_is 2 (js.map jnP)
      obtain ⟨jd, jsc, jc, jl, jq⟩ := ji.all
      have hJ := hB.js
      have hJl := hJ.len
      have hjm : (js.map jnP).length = js.length := List.length_map ..
      refine Rs.alloc (z := .agg [_, _, _, _, _]) (c := 5) rfl rfl rfl (fun g3 => ?_)
      first | refine Rs.store0 (l' := [.agg [_, _, _, _, _]]) rfl rfl rfl (by first | rfl | exact storeB_ag rfl rfl rfl (by simp [scalars, sc_int, sc_str, sc_bool, sc_nil, sc_dsl, sc_own, sc_g, sc_f, *]) | exact storeB_fld rfl (by first | assumption | exact cl_g | exact cl_f) (by first | assumption | exact sc_g | exact sc_f) rfl) ?_ | refine Rs.store1 (l' := [.agg [_, _, _, _, _]]) rfl rfl rfl (by first | rfl | exact storeB_ag rfl rfl rfl (by simp [scalars, sc_int, sc_str, sc_bool, sc_nil, sc_dsl, sc_own, sc_g, sc_f, *]) | exact storeB_fld rfl (by first | assumption | exact cl_g | exact cl_f) (by first | assumption | exact sc_g | exact sc_f) rfl) ?_ | refine Rs.store2 (l' := [.agg [_, _, _, _, _]]) rfl rfl rfl (by first | rfl | exact storeB_ag rfl rfl rfl (by simp [scalars, sc_int, sc_str, sc_bool, sc_nil, sc_dsl, sc_own, sc_g, sc_f, *]) | exact storeB_fld rfl (by first | assumption | exact cl_g | exact cl_f) (by first | assumption | exact sc_g | exact sc_f) rfl) ?_ | refine Rs.store3 (l' := [.agg [_, _, _, _, _]]) rfl rfl rfl (by first | rfl | exact storeB_ag rfl rfl rfl (by simp [scalars, sc_int, sc_str, sc_bool, sc_nil, sc_dsl, sc_own, sc_g, sc_f, *]) | exact storeB_fld rfl (by first | assumption | exact cl_g | exact cl_f) (by first | assumption | exact sc_g | exact sc_f) rfl) ?_
      refine Rs.nil ?_
      refine Ps.thn ?_
      refine Ps.seq ?_
      refine Ps.region rfl ?_
      first | refine Rs.loadR (p := .agg [_, _, _, _, _]) rfl rfl rfl rfl ?_ | refine Rs.loadP (p := .agg [_, _, _, _, _]) 0 rfl rfl rfl rfl rfl ?_ | refine Rs.loadP (p := .agg [_, _, _, _, _]) 1 rfl rfl rfl rfl rfl ?_ | refine Rs.loadP (p := .agg [_, _, _, _, _]) 2 rfl rfl rfl rfl rfl ?_ | refine Rs.loadP (p := .agg [_, _, _, _, _]) 3 rfl rfl rfl rfl rfl ?_
      refine Rs.call0 rfl rfl rfl (days_ok cp up sp en js ⟨cd, cc, cl⟩ ⟨ud, uc, ul⟩ ⟨sd, sc, sl⟩ (by omega)) (fun p18 hp => ?_)
      obtain ⟨fd, ld, ok, hd, rfl⟩ : ∃ fd ld ok, ((js = [] ∧ fd = 0 ∧ ld = 0 ∧ ok = false) ∨ ∃ f l, js.head? = some f ∧ js.getLast? = some l ∧ fd = f.day ∧ ld = l.day ∧ ok = true) ∧ p18 = .tup [i32P fd, i32P ld, boolP ok] := by
        rcases hp with ⟨h1, h2⟩ | ⟨f, l, h1, h2, h3⟩
        · exact ⟨0, 0, false, .inl ⟨h1, rfl, rfl, rfl⟩, h2⟩
        · exact ⟨f.day, l.day, true, .inr ⟨f, l, h1, h2, rfl, rfl, rfl⟩, h3⟩
      clear hp
      refine Rs.move rfl rfl ?_
      refine Rs.extract rfl rfl rfl ?_
      refine Rs.extract rfl rfl rfl ?_
      refine Rs.extract rfl rfl rfl ?_
      refine Rs.assign rfl rfl ?_
      refine Rs.assign rfl rfl ?_
      refine Rs.assign rfl rfl ?_
      refine Rs.nil ?_
      refine Ps.thn ?_
      refine Ps.seq ?_
      refine Ps.seq ?_
      refine Ps.region rfl ?_
      first | refine Rs.fieldAddrD (off' := 4) rfl rfl rfl rfl ?_ | refine Rs.fieldAddrP (off' := 4) rfl rfl rfl rfl ?_
      first | refine Rs.loadR rfl rfl rfl rfl ?_ | refine Rs.loadP 0 rfl rfl rfl rfl rfl ?_ | refine Rs.loadP 1 rfl rfl rfl rfl rfl ?_ | refine Rs.loadP 2 rfl rfl rfl rfl rfl ?_ | refine Rs.loadP 3 rfl rfl rfl rfl rfl ?_
      first | refine Rs.lenD rfl rfl rfl rfl ?_ | refine Rs.lenO rfl rfl rfl rfl ?_ | refine Rs.lenI rfl rfl rfl rfl ?_ | refine Rs.lenA rfl rfl rfl rfl (by assumption) ?_ | refine Rs.lenS rfl rfl rfl rfl (by assumption) ?_
      refine Rs.binB rfl rfl rfl rfl rfl rfl ?_
      refine Rs.nil ?_
      refine Ps.thn ?_
      refine Ps.if rfl (fun hc => ?_) (fun hc => ?_)
      · try (first | replace hc := D1 hc | replace hc := D2 hc | replace hc := D3 hc | replace hc := D4 hc | replace hc := D5 hc | replace hc := D6 hc | replace hc := D7 hc | replace hc := D8 hc | replace hc := D9 hc | replace hc := D10 hc)
        refine Ps.seq ?_
        obtain ⟨hj0, rfl, rfl, rfl⟩ : js = [] ∧ fd = 0 ∧ ld = 0 ∧ ok = false := by
          rcases hd with h | ⟨f, l, h1, _⟩
          · exact h
          · rw [show js = [] by simpa using hc] at h1; cases h1
        clear hd
        refine Ps.region rfl ?_
        refine Rs.move rfl rfl ?_
        refine Rs.not rfl rfl ?_
        refine Rs.move rfl rfl ?_
        refine Rs.guard1 (w' := false) rfl rfl rfl (fun hg => ?_) (fun hg => ?_)
        · try (first | replace hg := D1 hg | replace hg := D2 hg | replace hg := D3 hg | replace hg := D4 hg | replace hg := D5 hg | replace hg := D6 hg | replace hg := D7 hg | replace hg := D8 hg | replace hg := D9 hg | replace hg := D10 hg)
          refine Rs.move rfl rfl ?_
          refine Rs.guardT rfl ?_
          refine Rs.binB rfl rfl rfl rfl rfl rfl ?_
          refine Rs.pickT (q := .lit _) rfl rfl rfl rfl ?_
          refine Rs.move rfl rfl ?_
          refine Rs.guard1 (w' := false) rfl rfl rfl (fun hg => ?_) (fun hg => ?_)
          · try (first | replace hg := D1 hg | replace hg := D2 hg | replace hg := D3 hg | replace hg := D4 hg | replace hg := D5 hg | replace hg := D6 hg | replace hg := D7 hg | replace hg := D8 hg | replace hg := D9 hg | replace hg := D10 hg)
            refine Rs.move rfl rfl ?_
            refine Rs.guardT rfl ?_
            refine Rs.binB rfl rfl rfl rfl rfl rfl ?_
            refine Rs.pickT (q := .lit _) rfl rfl rfl rfl ?_
            refine Rs.assign rfl rfl ?_
            refine Rs.nil ?_
            refine Ps.thn ?_
            refine Ps.ret ?_
            refine Ps.thn_ret ?_
            -- leaf 3 (ret)
            refine Ps.finP (l := [_]) rfl (by refine ResR.tmp rfl ?_; exact ResR.nil) (by first | rfl | simp [plainP, plainC, cp_lit, cp_dsl, *]) rfl ?_
            clear hA hw
            first
              | rfl
              | (exfalso; simp at hc; done)
              | (exfalso; simp at hg; done)
              | (simp_all [one]; done)
              | trace_state
          · try (first | replace hg := D1 hg | replace hg := D2 hg | replace hg := D3 hg | replace hg := D4 hg | replace hg := D5 hg | replace hg := D6 hg | replace hg := D7 hg | replace hg := D8 hg | replace hg := D9 hg | replace hg := D10 hg)
            refine Rs.guardF1 rfl rfl rfl ?_
            refine Rs.pickF (q := .lit _) rfl rfl rfl rfl ?_
            refine Rs.assign rfl rfl ?_
            refine Rs.nil ?_
            refine Ps.thn ?_
            refine Ps.ret ?_
            refine Ps.thn_ret ?_
            -- leaf 4 (ret)
            refine Ps.finP (l := [_]) rfl (by refine ResR.tmp rfl ?_; exact ResR.nil) (by first | rfl | simp [plainP, plainC, cp_lit, cp_dsl, *]) rfl ?_
            clear hA hw
            first
              | rfl
              | (exfalso; simp at hc; done)
              | (exfalso; simp at hg; done)
              | (simp_all [one]; done)
              | trace_state
        · try (first | replace hg := D1 hg | replace hg := D2 hg | replace hg := D3 hg | replace hg := D4 hg | replace hg := D5 hg | replace hg := D6 hg | replace hg := D7 hg | replace hg := D8 hg | replace hg := D9 hg | replace hg := D10 hg)
          refine Rs.guardF1 rfl rfl rfl ?_
          refine Rs.pickF (q := .lit _) rfl rfl rfl rfl ?_
          refine Rs.move rfl rfl ?_
          refine Rs.guardF1 rfl rfl rfl ?_
          refine Rs.guardF1 rfl rfl rfl ?_
          refine Rs.pickF (q := .lit _) rfl rfl rfl rfl ?_
          refine Rs.assign rfl rfl ?_
          refine Rs.nil ?_
          refine Ps.thn ?_
          refine Ps.ret ?_
          refine Ps.thn_ret ?_
          -- leaf 5 (ret)
          refine Ps.finP (l := [_]) rfl (by refine ResR.tmp rfl ?_; exact ResR.nil) (by first | rfl | simp [plainP, plainC, cp_lit, cp_dsl, *]) rfl ?_
          clear hA hw
          first
            | rfl
            | (exfalso; simp at hc; done)
            | (exfalso; simp at hg; done)
            | (simp_all [one]; done)
            | trace_state
      · try (first | replace hc := D1 hc | replace hc := D2 hc | replace hc := D3 hc | replace hc := D4 hc | replace hc := D5 hc | replace hc := D6 hc | replace hc := D7 hc | replace hc := D8 hc | replace hc := D9 hc | replace hc := D10 hc)
        refine Ps.skip ?_
        refine Ps.thn ?_
        refine Ps.seq ?_
        refine Ps.seq ?_
        refine Ps.region rfl ?_
        first | refine Rs.fieldAddrD (off' := 4) rfl rfl rfl rfl ?_ | refine Rs.fieldAddrP (off' := 4) rfl rfl rfl rfl ?_
        first | refine Rs.loadR rfl rfl rfl rfl ?_ | refine Rs.loadP 0 rfl rfl rfl rfl rfl ?_ | refine Rs.loadP 1 rfl rfl rfl rfl rfl ?_ | refine Rs.loadP 2 rfl rfl rfl rfl rfl ?_ | refine Rs.loadP 3 rfl rfl rfl rfl rfl ?_
        first | refine Rs.lenD rfl rfl rfl rfl ?_ | refine Rs.lenO rfl rfl rfl rfl ?_ | refine Rs.lenI rfl rfl rfl rfl ?_ | refine Rs.lenA rfl rfl rfl rfl (by assumption) ?_ | refine Rs.lenS rfl rfl rfl rfl (by assumption) ?_
        refine Rs.move (p := .lit _) rfl rfl ?_
        refine Rs.nil ?_
        refine Ps.thn ?_
        refine Ps.block ?_
        -- loop 1 writes [2, 8, 39, 40, 41, 42, 43, 44, 45, 46, 47, 48, 49, 50, 51, 52, 53]
        have hne : js ≠ [] := by intro h; subst h; simp at hc
        obtain ⟨f, l, hf, hll, rfl, rfl, rfl⟩ : ∃ f l, js.head? = some f ∧ js.getLast? = some l ∧ fd = f.day ∧ ld = l.day ∧ ok = true := by
          rcases hd with ⟨h, _⟩ | h
          · exact absurd h hne
          · exact h
        have hbt := day_between hJ.days hf hll
        have hf0 : js[0]? = some f := by rw [← List.head?_eq_getElem?]; exact hf
        have hl0 : js[js.length - 1]? = some l := by rw [← List.getLast?_eq_getElem?]; exact hll
        have hlp := List.length_pos_iff.2 hne
        refine Ps.loop (J := Nat) ⟨fun j => j ≤ js.length, fun j => [(39, i64P j)], fun _ => [(g3, 0, .blk 5 [bkP cp up sp en js] true)], fun j => js.length - j⟩ [2, 8, 39, 40, 41, 42, 43, 44, 45, 46, 47, 48, 49, 50, 51, 52, 53] [(38, _), (37, _), (36, _), (25, _), (24, _), (23, _), (22, _), (6, _), (5, _), (4, _), (21, _), (20, _), (19, _), (16, _), (18, _), (17, _), (3, _), (15, _), (14, _), (13, _), (12, _), (11, _), (10, _), (9, _), (1, _), (0, _)] 0 rfl (Nat.zero_le _) ⟨rfl, trivial⟩ (by repeat' first | exact List.Sublist.refl _ | exact List.nil_sublist _ | exact List.sublist_append_left _ _ | refine List.Sublist.cons₂ _ ?_ | refine List.Sublist.cons _ ?_) (fun j hj => ?_)
        have hj : j ≤ js.length := hj
        dsimp only [List.cons_append, List.nil_append]
        refine Ps.seq ?_
        refine Ps.region rfl ?_
        refine Rs.binB rfl rfl rfl rfl rfl rfl ?_
        refine Rs.nil ?_
        refine Ps.thn ?_
        refine Ps.seq ?_
        refine Ps.if rfl (fun hc => ?_) (fun hc => ?_)
        · try (first | replace hc := D1 hc | replace hc := D2 hc | replace hc := D3 hc | replace hc := D4 hc | replace hc := D5 hc | replace hc := D6 hc | replace hc := D7 hc | replace hc := D8 hc | replace hc := D9 hc | replace hc := D10 hc)
          refine Ps.skip ?_
          refine Ps.thn ?_
          refine Ps.seq ?_
          refine Ps.block ?_
          refine Ps.seq ?_
          have hlt : j < js.length := by simp at hc; omega
          obtain ⟨y, hy⟩ := at_lt hlt
          have hyb := hbt y (List.mem_of_getElem? hy)
          obtain ⟨yd, ys, yc, yl, yq⟩ := (slP_is 4 (y.lines.map lnP)).all
          refine Ps.region rfl ?_
          first | refine Rs.indexD (lc := [_, _]) rfl rfl rfl rfl rfl rfl (map_at hy) rfl ?_ | refine Rs.indexS (lc := [_, _]) rfl rfl rfl rfl rfl (by assumption) rfl (map_at hy) rfl ?_
          first | refine Rs.loadR (p := .agg [_, _]) rfl rfl rfl rfl ?_ | refine Rs.loadP (p := .agg [_, _]) 0 rfl rfl rfl rfl rfl ?_ | refine Rs.loadP (p := .agg [_, _]) 1 rfl rfl rfl rfl rfl ?_ | refine Rs.loadP (p := .agg [_, _]) 2 rfl rfl rfl rfl rfl ?_ | refine Rs.loadP (p := .agg [_, _]) 3 rfl rfl rfl rfl rfl ?_
          refine Rs.alloc (z := .agg [_, _]) (c := 2) rfl rfl rfl (fun g8 => ?_)
          first | refine Rs.store0 (l' := [.agg [_, _]]) rfl rfl rfl (by first | rfl | exact storeB_ag rfl rfl rfl (by simp [scalars, sc_int, sc_str, sc_bool, sc_nil, sc_dsl, sc_own, sc_g, sc_f, *]) | exact storeB_fld rfl (by first | assumption | exact cl_g | exact cl_f) (by first | assumption | exact sc_g | exact sc_f) rfl) ?_ | refine Rs.store1 (l' := [.agg [_, _]]) rfl rfl rfl (by first | rfl | exact storeB_ag rfl rfl rfl (by simp [scalars, sc_int, sc_str, sc_bool, sc_nil, sc_dsl, sc_own, sc_g, sc_f, *]) | exact storeB_fld rfl (by first | assumption | exact cl_g | exact cl_f) (by first | assumption | exact sc_g | exact sc_f) rfl) ?_ | refine Rs.store2 (l' := [.agg [_, _]]) rfl rfl rfl (by first | rfl | exact storeB_ag rfl rfl rfl (by simp [scalars, sc_int, sc_str, sc_bool, sc_nil, sc_dsl, sc_own, sc_g, sc_f, *]) | exact storeB_fld rfl (by first | assumption | exact cl_g | exact cl_f) (by first | assumption | exact sc_g | exact sc_f) rfl) ?_ | refine Rs.store3 (l' := [.agg [_, _]]) rfl rfl rfl (by first | rfl | exact storeB_ag rfl rfl rfl (by simp [scalars, sc_int, sc_str, sc_bool, sc_nil, sc_dsl, sc_own, sc_g, sc_f, *]) | exact storeB_fld rfl (by first | assumption | exact cl_g | exact cl_f) (by first | assumption | exact sc_g | exact sc_f) rfl) ?_
          refine Rs.nil ?_
          refine Ps.thn ?_
          refine Ps.seq ?_
          refine Ps.region rfl ?_
          first | refine Rs.fieldAddrD (off' := 0) rfl rfl rfl rfl ?_ | refine Rs.fieldAddrP (off' := 0) rfl rfl rfl rfl ?_
          first | refine Rs.loadR rfl rfl rfl rfl ?_ | refine Rs.loadP 0 rfl rfl rfl rfl rfl ?_ | refine Rs.loadP 1 rfl rfl rfl rfl rfl ?_ | refine Rs.loadP 2 rfl rfl rfl rfl rfl ?_ | refine Rs.loadP 3 rfl rfl rfl rfl rfl ?_
          refine Rs.move rfl rfl ?_
          refine Rs.binB rfl rfl rfl rfl rfl rfl ?_
          refine Rs.move rfl rfl ?_
          refine Rs.guard1 (w' := true) rfl rfl rfl (fun hg => ?_) (fun hg => ?_)
          · try (first | replace hg := D1 hg | replace hg := D2 hg | replace hg := D3 hg | replace hg := D4 hg | replace hg := D5 hg | replace hg := D6 hg | replace hg := D7 hg | replace hg := D8 hg | replace hg := D9 hg | replace hg := D10 hg)
            first | refine Rs.fieldAddrD (off' := 0) rfl rfl rfl rfl ?_ | refine Rs.fieldAddrP (off' := 0) rfl rfl rfl rfl ?_
            refine Rs.guardT rfl ?_
            first | refine Rs.loadR rfl rfl rfl rfl ?_ | refine Rs.loadP 0 rfl rfl rfl rfl rfl ?_ | refine Rs.loadP 1 rfl rfl rfl rfl rfl ?_ | refine Rs.loadP 2 rfl rfl rfl rfl rfl ?_ | refine Rs.loadP 3 rfl rfl rfl rfl rfl ?_
            refine Rs.guardT rfl ?_
            refine Rs.move rfl rfl ?_
            refine Rs.guardT rfl ?_
            refine Rs.binB rfl rfl rfl rfl rfl rfl ?_
            refine Rs.pickF (p := .lit _) rfl rfl rfl rfl ?_
            refine Rs.nil ?_
            refine Ps.thn ?_
            refine Ps.if rfl (fun hc => ?_) (fun hc => ?_)
            · try (first | replace hc := D1 hc | replace hc := D2 hc | replace hc := D3 hc | replace hc := D4 hc | replace hc := D5 hc | replace hc := D6 hc | replace hc := D7 hc | replace hc := D8 hc | replace hc := D9 hc | replace hc := D10 hc)
              refine Ps.seq ?_
              exfalso
              simp at hc
              omega
            · try (first | replace hc := D1 hc | replace hc := D2 hc | replace hc := D3 hc | replace hc := D4 hc | replace hc := D5 hc | replace hc := D6 hc | replace hc := D7 hc | replace hc := D8 hc | replace hc := D9 hc | replace hc := D10 hc)
              refine Ps.skip ?_
              refine Ps.blk ?_
              refine Ps.thn ?_
              refine Ps.region rfl ?_
              refine Rs.add rfl rfl rfl (by first | exact W_i64s (by omega) | exact W_i64 (by omega) (by omega) | rfl) ?_
              refine Rs.move rfl rfl ?_
              refine Rs.nil ?_
              -- leaf 6 (round1)
              exact Ps.round (j + 1) hlt (by show js.length - (j + 1) < js.length - j; omega) ⟨rfl, trivial⟩ (by repeat' first | exact HasL.nil | refine HasL.cons rfl ?_) (by repeat' first | exact List.Sublist.refl _ | exact List.nil_sublist _ | exact List.sublist_append_left _ _ | refine List.Sublist.cons₂ _ ?_ | refine List.Sublist.cons _ ?_)
          · try (first | replace hg := D1 hg | replace hg := D2 hg | replace hg := D3 hg | replace hg := D4 hg | replace hg := D5 hg | replace hg := D6 hg | replace hg := D7 hg | replace hg := D8 hg | replace hg := D9 hg | replace hg := D10 hg)
            refine Rs.guardF1 rfl rfl rfl ?_
            refine Rs.guardF1 rfl rfl rfl ?_
            refine Rs.guardF1 rfl rfl rfl ?_
            refine Rs.pickT (p := .lit _) rfl rfl rfl rfl ?_
            refine Rs.nil ?_
            refine Ps.thn ?_
            refine Ps.ifT rfl ?_
            refine Ps.seq ?_
            exfalso
            simp at hc
            omega
        · try (first | replace hc := D1 hc | replace hc := D2 hc | replace hc := D3 hc | replace hc := D4 hc | replace hc := D5 hc | replace hc := D6 hc | replace hc := D7 hc | replace hc := D8 hc | replace hc := D9 hc | replace hc := D10 hc)
          refine Ps.exit ?_
          refine Ps.thn_exit ?_
          refine Ps.rnd_exit ?_
          refine Ps.blk_here ?_
          refine Ps.thn ?_
          refine Ps.seq ?_
          refine Ps.region rfl ?_
          refine Rs.move rfl rfl ?_
          refine Rs.move rfl rfl ?_
          refine Rs.guard1 (w' := false) rfl rfl rfl (fun hg => ?_) (fun hg => ?_)
          · try (first | replace hg := D1 hg | replace hg := D2 hg | replace hg := D3 hg | replace hg := D4 hg | replace hg := D5 hg | replace hg := D6 hg | replace hg := D7 hg | replace hg := D8 hg | replace hg := D9 hg | replace hg := D10 hg)
            refine Rs.move rfl rfl ?_
            refine Rs.guardT rfl ?_
            first | refine Rs.fieldAddrD (off' := 4) rfl rfl rfl rfl ?_ | refine Rs.fieldAddrP (off' := 4) rfl rfl rfl rfl ?_
            refine Rs.guardT rfl ?_
            first | refine Rs.loadR rfl rfl rfl rfl ?_ | refine Rs.loadP 0 rfl rfl rfl rfl rfl ?_ | refine Rs.loadP 1 rfl rfl rfl rfl rfl ?_ | refine Rs.loadP 2 rfl rfl rfl rfl rfl ?_ | refine Rs.loadP 3 rfl rfl rfl rfl rfl ?_
            refine Rs.guardT rfl ?_
            first | refine Rs.indexD (lc := [_, _]) rfl rfl rfl rfl rfl rfl (map_at hf0) rfl ?_ | refine Rs.indexS (lc := [_, _]) rfl rfl rfl rfl rfl (by assumption) rfl (map_at hf0) rfl ?_
            refine Rs.guardT rfl ?_
            first | refine Rs.fieldAddrD (off' := 0) rfl rfl rfl rfl ?_ | refine Rs.fieldAddrP (off' := 0) rfl rfl rfl rfl ?_
            refine Rs.guardT rfl ?_
            first | refine Rs.loadR rfl rfl rfl rfl ?_ | refine Rs.loadP 0 rfl rfl rfl rfl rfl ?_ | refine Rs.loadP 1 rfl rfl rfl rfl rfl ?_ | refine Rs.loadP 2 rfl rfl rfl rfl rfl ?_ | refine Rs.loadP 3 rfl rfl rfl rfl rfl ?_
            refine Rs.guardT rfl ?_
            refine Rs.binB rfl rfl rfl rfl rfl rfl ?_
            refine Rs.pickT (q := .lit _) rfl rfl rfl rfl ?_
            refine Rs.move rfl rfl ?_
            refine Rs.guard1 (w' := false) rfl rfl rfl (fun hg => ?_) (fun hg => ?_)
            · try (first | replace hg := D1 hg | replace hg := D2 hg | replace hg := D3 hg | replace hg := D4 hg | replace hg := D5 hg | replace hg := D6 hg | replace hg := D7 hg | replace hg := D8 hg | replace hg := D9 hg | replace hg := D10 hg)
              refine Rs.move rfl rfl ?_
              refine Rs.guardT rfl ?_
              first | refine Rs.fieldAddrD (off' := 4) rfl rfl rfl rfl ?_ | refine Rs.fieldAddrP (off' := 4) rfl rfl rfl rfl ?_
              refine Rs.guardT rfl ?_
              first | refine Rs.loadR rfl rfl rfl rfl ?_ | refine Rs.loadP 0 rfl rfl rfl rfl rfl ?_ | refine Rs.loadP 1 rfl rfl rfl rfl rfl ?_ | refine Rs.loadP 2 rfl rfl rfl rfl rfl ?_ | refine Rs.loadP 3 rfl rfl rfl rfl rfl ?_
              refine Rs.guardT rfl ?_
              first | refine Rs.fieldAddrD (off' := 4) rfl rfl rfl rfl ?_ | refine Rs.fieldAddrP (off' := 4) rfl rfl rfl rfl ?_
              refine Rs.guardT rfl ?_
              first | refine Rs.loadR rfl rfl rfl rfl ?_ | refine Rs.loadP 0 rfl rfl rfl rfl rfl ?_ | refine Rs.loadP 1 rfl rfl rfl rfl rfl ?_ | refine Rs.loadP 2 rfl rfl rfl rfl rfl ?_ | refine Rs.loadP 3 rfl rfl rfl rfl rfl ?_
              refine Rs.guardT rfl ?_
              first | refine Rs.lenD rfl rfl rfl rfl ?_ | refine Rs.lenO rfl rfl rfl rfl ?_ | refine Rs.lenI rfl rfl rfl rfl ?_ | refine Rs.lenA rfl rfl rfl rfl (by assumption) ?_ | refine Rs.lenS rfl rfl rfl rfl (by assumption) ?_
              refine Rs.guardT rfl ?_
              refine Rs.sub rfl rfl rfl (by first | exact W_i64p (by omega) (by omega) | exact W_i64 (by omega) (by omega) | rfl) ?_
              refine Rs.guardT rfl ?_
              first | refine Rs.indexD (lc := [_, _]) rfl rfl rfl rfl rfl (by omega) (map_at hl0) rfl ?_ | refine Rs.indexS (lc := [_, _]) rfl rfl rfl rfl rfl (by assumption) (by omega) (map_at hl0) rfl ?_
              refine Rs.guardT rfl ?_
              first | refine Rs.fieldAddrD (off' := 0) rfl rfl rfl rfl ?_ | refine Rs.fieldAddrP (off' := 0) rfl rfl rfl rfl ?_
              refine Rs.guardT rfl ?_
              first | refine Rs.loadR rfl rfl rfl rfl ?_ | refine Rs.loadP 0 rfl rfl rfl rfl rfl ?_ | refine Rs.loadP 1 rfl rfl rfl rfl rfl ?_ | refine Rs.loadP 2 rfl rfl rfl rfl rfl ?_ | refine Rs.loadP 3 rfl rfl rfl rfl rfl ?_
              refine Rs.guardT rfl ?_
              refine Rs.binB rfl rfl rfl rfl rfl rfl ?_
              refine Rs.pickT (q := .lit _) rfl rfl rfl rfl ?_
              refine Rs.assign rfl rfl ?_
              refine Rs.nil ?_
              refine Ps.thn ?_
              refine Ps.ret ?_
              -- leaf 7 (ret)
              refine Ps.finP (l := [_]) rfl (by refine ResR.tmp rfl ?_; exact ResR.nil) (by first | rfl | simp [plainP, plainC, cp_lit, cp_dsl, *]) rfl ?_
              clear hA hw
              first
                | rfl
                | (exfalso; simp at hc; done)
                | (exfalso; simp at hg; done)
                | (simp_all [one]; done)
                | trace_state
            · try (first | replace hg := D1 hg | replace hg := D2 hg | replace hg := D3 hg | replace hg := D4 hg | replace hg := D5 hg | replace hg := D6 hg | replace hg := D7 hg | replace hg := D8 hg | replace hg := D9 hg | replace hg := D10 hg)
              refine Rs.guardF1 rfl rfl rfl ?_
              refine Rs.guardF1 rfl rfl rfl ?_
              refine Rs.guardF1 rfl rfl rfl ?_
              refine Rs.guardF1 rfl rfl rfl ?_
              refine Rs.guardF1 rfl rfl rfl ?_
              refine Rs.guardF1 rfl rfl rfl ?_
              refine Rs.guardF1 rfl rfl rfl ?_
              refine Rs.guardF1 rfl rfl rfl ?_
              refine Rs.guardF1 rfl rfl rfl ?_
              refine Rs.guardF1 rfl rfl rfl ?_
              refine Rs.pickF (q := .lit _) rfl rfl rfl rfl ?_
              refine Rs.assign rfl rfl ?_
              refine Rs.nil ?_
              refine Ps.thn ?_
              refine Ps.ret ?_
              -- leaf 8 (ret)
              refine Ps.finP (l := [_]) rfl (by refine ResR.tmp rfl ?_; exact ResR.nil) (by first | rfl | simp [plainP, plainC, cp_lit, cp_dsl, *]) rfl ?_
              clear hA hw
              first
                | rfl
                | (exfalso; simp at hc; done)
                | (exfalso; simp at hg; done)
                | (simp_all [one]; done)
                | trace_state
          · try (first | replace hg := D1 hg | replace hg := D2 hg | replace hg := D3 hg | replace hg := D4 hg | replace hg := D5 hg | replace hg := D6 hg | replace hg := D7 hg | replace hg := D8 hg | replace hg := D9 hg | replace hg := D10 hg)
            refine Rs.guardF1 rfl rfl rfl ?_
            refine Rs.guardF1 rfl rfl rfl ?_
            refine Rs.guardF1 rfl rfl rfl ?_
            refine Rs.guardF1 rfl rfl rfl ?_
            refine Rs.guardF1 rfl rfl rfl ?_
            refine Rs.guardF1 rfl rfl rfl ?_
            refine Rs.pickF (q := .lit _) rfl rfl rfl rfl ?_
            refine Rs.move rfl rfl ?_
            refine Rs.guardF1 rfl rfl rfl ?_
            refine Rs.guardF1 rfl rfl rfl ?_
            refine Rs.guardF1 rfl rfl rfl ?_
            refine Rs.guardF1 rfl rfl rfl ?_
            refine Rs.guardF1 rfl rfl rfl ?_
            refine Rs.guardF1 rfl rfl rfl ?_
            refine Rs.guardF1 rfl rfl rfl ?_
            refine Rs.guardF1 rfl rfl rfl ?_
            refine Rs.guardF1 rfl rfl rfl ?_
            refine Rs.guardF1 rfl rfl rfl ?_
            refine Rs.guardF1 rfl rfl rfl ?_
            refine Rs.pickF (q := .lit _) rfl rfl rfl rfl ?_
            refine Rs.assign rfl rfl ?_
            refine Rs.nil ?_
            refine Ps.thn ?_
            refine Ps.ret ?_
            -- leaf 9 (ret)
            refine Ps.finP (l := [_]) rfl (by refine ResR.tmp rfl ?_; exact ResR.nil) (by first | rfl | simp [plainP, plainC, cp_lit, cp_dsl, *]) rfl ?_
            clear hA hw
            first
              | rfl
              | (exfalso; simp at hc; done)
              | (exfalso; simp at hg; done)
              | (simp_all [one]; done)
              | trace_state
end Go.Proofs.YtddaogebacigbaaGreatDoor.RV.T
