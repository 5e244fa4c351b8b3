/- The law BookFrames: its row and its card, proved out of the symbolic run of the Go function. Conditions: none beyond the given row's. -/
import Derived.Test.YtddaogebacigbaaGreatDoorRowBookFramesC
import Derived.Test.YtddaogebacigbaaGreatDoorPkC2
namespace Go.Proofs.YtddaogebacigbaaGreatDoor.bookFrames
open Go Go.ChangeShapes Go.WideShapes Go.ChangeAt Go.RowKit Go.Proofs.YtddaogebacigbaaGreatDoor.RV Go.Proofs.YtddaogebacigbaaGreatDoor.RV.T Go.Proofs.YtddaogebacigbaaGreatDoor.XA.Awk Go.Proofs.YtddaogebacigbaaGreatDoor.XA
open Go.ChangeMaps (open_string shut_string)
set_option linter.unusedVariables false
theorem reads (os : Os) {H : Type} (enc : TypeId × Value → H) : (DataW.whole enc Tryz.prog ((Glo.world0 os).forCall (fun _ _ => 0) ⟨#[], #[.slice none 0 0, .slice none 0 0, .slice none 0 0, .int .i32 0, .agg #[.slice none 0 0, .slice none 0 0, .int .i16 0, .slice none 0 0, .slice none 0 0], .int .u8 0], []⟩).memory Tryz.f12.params.toList Rows.bookFramesSpec.vars false #[.slice none 0 0, .slice none 0 0, .slice none 0 0, .int .i32 0, .agg #[.slice none 0 0, .slice none 0 0, .int .i16 0, .slice none 0 0, .slice none 0 0], .int .u8 0].toList 8).map (fun x => (x.1, x.2.1)) = some ([.nil, .nil, .nil, .lit (.int .i32 0), .agg [.nil, .nil, .lit (.int .i16 0), .nil, .nil], .lit (.int .u8 0)], []) := by kernel_rfl
set_option maxRecDepth 100000 in
theorem lifted (os : Os) (started : os.Started) (H : Type) (enc : TypeId × Value → H) (F : Stop.Interp) :
    ReturnsInHanded {} Tryz.checked os 12 .any ((OpenSpec.ofChange Rows.bookFramesSpec).preRow enc Tryz.prog Tryz.f12 Rows.bookFramesRow.domain false Rows.bookFramesRow.laid) (((OpenSpec.ofChange Rows.bookFramesSpec).at F).post enc Tryz.prog Tryz.f12 false true false false) := by
  obtain ⟨⟨x1, x2, x3⟩, hx, hx1⟩ := Option.map_eq_some_iff.1 (reads os enc)
  simp only [Prod.mk.injEq] at hx1
  obtain ⟨rfl, rfl⟩ := hx1
  refine returnsInHanded_of_row (C := Tryz.checked) (s := OpenSpec.ofChange Rows.bookFramesSpec) Glo.own started (by kernel_rfl) Tryz.func12
    (witness_row_at (enc := enc) (C := Tryz.checked) false (Glo.world0 os) #[.slice none 0 0, .slice none 0 0, .slice none 0 0, .int .i32 0, .agg #[.slice none 0 0, .slice none 0 0, .int .i16 0, .slice none 0 0, .slice none 0 0], .int .u8 0] rfl (by kernel_rfl) (by kernel_rfl) (by kernel_rfl)
      (OpenSpec.preRow_of_cond 8 hx (by kernel_rfl) (fun k hk => by cases hk) (by kernel_rfl) (Glo.met0 os _))) ?_
  intro W base args ds gs before hval0 hW _ _ hsz0 hL _ _
  have hL' : laidMet Tryz.prog Glo.laid0 W := hL
  have hG := Glo.glob0 hL'
  clear hL hL'
  have hsz : (DataW.weightsEach Tryz.prog (Tryz.f12.params.toList ++ Rows.bookFramesSpec.plain.varTypes Tryz.prog) (ds ++ gs)).all (· ≤ reachBytes) = true := hsz0
  have hval : ∀ (j : Nat) t v, Tryz.f12.params[j]? = some t → args[j]? = some v → Value.okWide Tryz.prog W .any base t v := hval0
  have hW' := hW
  obtain ⟨p, q, hA0, hV, rfl, hfz, hnd⟩ := hW
  have hA : DataW.TrodAll enc Tryz.prog W 0 (fun _ => true) true Tryz.f12.params.toList args.toList ds p := hA0
  rw [Tryz.params12] at hA hval hsz
  obtain ⟨v0, vs0, d0, ds0, p0, q0, hargs, rfl, rfl, h0, r0⟩ := trodAll_cons hA
  obtain ⟨v1, vs1, d1, ds1, p1, q1, rfl, rfl, rfl, h1, r1⟩ := trodAll_cons r0
  obtain ⟨v2, vs2, d2, ds2, p2, q2, rfl, rfl, rfl, h2, r2⟩ := trodAll_cons r1
  obtain ⟨v3, vs3, d3, ds3, p3, q3, rfl, rfl, rfl, h3, r3⟩ := trodAll_cons r2
  obtain ⟨v4, vs4, d4, ds4, p4, q4, rfl, rfl, rfl, h4, r4⟩ := trodAll_cons r3
  obtain ⟨v5, vs5, d5, ds5, p5, q5, rfl, rfl, rfl, h5, r5⟩ := trodAll_cons r4
  obtain ⟨rfl, rfl, rfl⟩ := trodAll_nil r5
  obtain rfl : args = #[v0, v1, v2, v3, v4, v5] := by cases args; simp_all
  obtain ⟨rfl, rfl⟩ := trodVars_none hV
  have k0 := h0
  have lt0 : ∀ x ∈ p0, x.block < W.heap.size := by obtain ⟨m, hm⟩ := k0; exact DataW.trod_lt m _ _ _ hm
  obtain ⟨A0, n0, c0, rfl⟩ := okWide_slice Tryz.underlying60 (hval 0 60 v0 rfl rfl)
  obtain ⟨fuel0, hf0⟩ := h0
  obtain ⟨pv0, y0, hD0, hv0, hy0, hl0⟩ := o60 enc W 0 _ true fuel0 _ _ hf0 (fun q hq => of_decide_eq_true (List.all_eq_true.1 hsz q (DataW.weights_mem_each (j := 0) (t := 60) rfl rfl q hq)))
  obtain ⟨x0, rfl, hb0, hx0⟩ := IsL.enc hD0
  obtain ⟨z0, hz0, V0⟩ := args1 hl0
  obtain rfl : z0 = _ := (List.cons.inj hz0).1.symm
  have k1 := h1
  have lt1 : ∀ x ∈ p1, x.block < W.heap.size := by obtain ⟨m, hm⟩ := k1; exact DataW.trod_lt m _ _ _ hm
  obtain ⟨A1, n1, c1, rfl⟩ := okWide_slice Tryz.underlying53 (hval 1 53 v1 rfl rfl)
  obtain ⟨fuel1, hf1⟩ := h1
  obtain ⟨pv1, y1, hD1, hv1, hy1, hl1⟩ := o53 enc W 0 _ true fuel1 _ _ hf1 (fun q hq => of_decide_eq_true (List.all_eq_true.1 hsz q (DataW.weights_mem_each (j := 1) (t := 53) rfl rfl q hq)))
  obtain ⟨x1, rfl, hb1, hx1⟩ := IsL.ints hD1
  obtain ⟨z1, hz1, V1⟩ := args1 hl1
  obtain rfl : z1 = _ := (List.cons.inj hz1).1.symm
  have k2 := h2
  have lt2 : ∀ x ∈ p2, x.block < W.heap.size := by obtain ⟨m, hm⟩ := k2; exact DataW.trod_lt m _ _ _ hm
  obtain ⟨A2, n2, c2, rfl⟩ := okWide_slice Tryz.underlying90 (hval 2 90 v2 rfl rfl)
  obtain ⟨fuel2, hf2⟩ := h2
  obtain ⟨pv2, y2, hD2, hv2, hy2, hl2⟩ := o90 enc W 0 _ true fuel2 _ _ hf2 (fun q hq => of_decide_eq_true (List.all_eq_true.1 hsz q (DataW.weights_mem_each (j := 2) (t := 90) rfl rfl q hq)))
  obtain ⟨x2, rfl, hb2, hx2⟩ := IsL.ints hD2
  obtain ⟨z2, hz2, V2⟩ := args1 hl2
  obtain rfl : z2 = _ := (List.cons.inj hz2).1.symm
  obtain ⟨a3, rfl, rfl, rfl, wa3⟩ := open_int Tryz.underlying21 (hval 3 21 v3 rfl rfl) h3
  have V3 : V W noO iota0 (.lit (.int .i32 a3)) _ := V.lit_iff.2 rfl
  have k4 := h4
  have lt4 : ∀ x ∈ p4, x.block < W.heap.size := by obtain ⟨m, hm⟩ := k4; exact DataW.trod_lt m _ _ _ hm
  obtain ⟨cs4, rfl, hs4⟩ := okWide_struct Tryz.underlying57 (hval 4 57 v4 rfl rfl)
  obtain ⟨fuel4, hf4⟩ := h4
  obtain ⟨pv4, y4, hD4, hv4, hy4, hl4⟩ := o57 enc W 0 _ true fuel4 _ _ hf4 (fun q hq => of_decide_eq_true (List.all_eq_true.1 hsz q (DataW.weights_mem_each (j := 4) (t := 57) rfl rfl q hq)))
  obtain ⟨x4, rfl, hx4⟩ := hD4
  have V4 : V W noO iota0 _ (.agg cs4) := V.agg_iff.2 ⟨cs4, rfl, hl4⟩
  obtain ⟨a5, rfl, rfl, rfl, wa5⟩ := open_int Tryz.underlying5 (hval 5 5 v5 rfl rfl) h5
  have V5 : V W noO iota0 (.lit (.int .u8 a5)) _ := V.lit_iff.2 rfl
  clear hA0 hval0 hsz0 hsz
  obtain ⟨k, pv, hk, hq⟩ := bookFrames_ok ⟨3000, _, runA, rfl⟩ x0 _ dsl_is hx0 (Nat.lt_of_le_of_lt hb0 (by decide)) x1 _ dsl_is (Nat.lt_of_le_of_lt hb1 (by decide)) x2 _ dsl_is (Nat.lt_of_le_of_lt hb2 (by decide)) (fun y hy => wf_rng (hx2 y hy) rfl rfl) a3 (wf_rng wa3 rfl rfl) x4 hx4.1 (Nat.lt_of_le_of_lt hx4.2 (by decide)) a5 (wf_rng wa5 rfl rfl)
  refine (callPure_sound (O := noO) cfgOK (exec_sound cfgOK k) (baseA hG _ fun _ h => h) (ι := iota0) (vals := [_, _, _, _, _, _]) (VL.cons_iff.2 ⟨_, _, rfl, V0, VL.cons_iff.2 ⟨_, _, rfl, V1, VL.cons_iff.2 ⟨_, _, rfl, V2, VL.cons_iff.2 ⟨_, _, rfl, V3, VL.cons_iff.2 ⟨_, _, rfl, V4, VL.cons_iff.2 ⟨_, _, rfl, V5, VL.nil_iff.2 rfl⟩⟩⟩⟩⟩⟩) hk).mono ?_
  rintro e W' ⟨x, rfl, hg, hv⟩
  subst hq
  obtain rfl := V.lit_iff.1 hv
  have bel : Below W.heap.size W W' := hg.below
  exact ⟨_, rfl, _, _, _, [], _, [], hW', trodAll_mk1 (shut_bool Tryz.underlying4 _), (trodAll_cons_mk (Below.trod laidOut (by kernel_rfl) (of_decide_eq_true (by kernel_rfl)) k0 bel lt0) (trodAll_cons_mk (Below.trod laidOut (by kernel_rfl) (of_decide_eq_true (by kernel_rfl)) k1 bel lt1) (trodAll_cons_mk (Below.trod laidOut (by kernel_rfl) (of_decide_eq_true (by kernel_rfl)) k2 bel lt2) (trodAll_cons_mk (shut_int Tryz.underlying21 wa3) (trodAll_cons_mk (Below.trod laidOut (by kernel_rfl) (of_decide_eq_true (by kernel_rfl)) k4 bel lt4) (trodAll_cons_mk (shut_int Tryz.underlying5 wa5) trodAll_mk0)))))), rfl, bel.frame _, fun h => by cases h⟩
theorem said : Rows.BookFramesSaid :=
  OpenClaim.holds_of_cond 12 Tryz.f12 rfl rfl rfl rfl rfl rfl rfl ⟨rfl, rfl, rfl, rfl, rfl⟩ rfl rfl rfl rfl rfl (by kernel_rfl) Tryz.func12 closed
    (of_decide_eq_true (by kernel_rfl)) (by unfold Func.isWrapper; first | (rw [if_pos (by decide +kernel)]; kernel_rfl) | (rw [if_neg (by decide +kernel)]; exact ⟨rfl, rfl⟩))
    (fun os started H enc _ F => by rw [OpenClaim.pre_eq_preRow]; exact lifted os started H enc F)
theorem plain (f : FuncId) (fn : Func) (hf : Tryz.pinned.checked.prog.funcNamed "transposal/transposallaw10.BookFrames" = some f) (hfn : Tryz.pinned.checked.prog.funcs[f]? = some fn) :
    true = Tryz.pinned.checked.prog.looks [] ∧ ∀ (j : Nat) t, fn.params[j]? = some t → Tryz.pinned.checked.prog.wantsStandIn t = false := by
  obtain rfl : f = 12 := Option.some.inj ((show Tryz.prog.funcNamed "transposal/transposallaw10.BookFrames" = some 12 by kernel_rfl).symm.trans hf) |>.symm
  obtain rfl : fn = Tryz.f12 := (Option.some.inj (Tryz.func12.symm.trans hfn)).symm
  refine ⟨by kernel_rfl, fun j t ht => ?_⟩
  rw [Tryz.params12] at ht
  have hm : t = 60 ∨ t = 53 ∨ t = 90 ∨ t = 21 ∨ t = 57 ∨ t = 5 := by simpa using Array.mem_of_getElem? ht
  rcases hm with rfl | rfl | rfl | rfl | rfl | rfl
  · exact (show Tryz.prog.wantsStandIn 60 = false by kernel_rfl)
  · exact (show Tryz.prog.wantsStandIn 53 = false by kernel_rfl)
  · exact (show Tryz.prog.wantsStandIn 90 = false by kernel_rfl)
  · exact (show Tryz.prog.wantsStandIn 21 = false by kernel_rfl)
  · exact (show Tryz.prog.wantsStandIn 57 = false by kernel_rfl)
  · exact (show Tryz.prog.wantsStandIn 5 = false by kernel_rfl)
theorem card : Rows.BookFramesCardSaid :=
  Claim7.holds_tied_plain_at .later [] _ _ _ _ said (fun _ h => by cases h) (by kernel_rfl) (fun _ h => by cases h) bookFrames_row_tie rfl ⟨rfl, rfl⟩ (by kernel_rfl) rfl plain (by kernel_rfl)
#print axioms card
end Go.Proofs.YtddaogebacigbaaGreatDoor.bookFrames
