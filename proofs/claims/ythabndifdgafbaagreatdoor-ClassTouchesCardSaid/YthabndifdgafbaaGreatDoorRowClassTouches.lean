/- The law ClassTouches: its row and its card, proved out of the symbolic run of the Go function. Conditions: none beyond the given row's. -/
import Derived.Test.YthabndifdgafbaaGreatDoorRowClassTouchesC
import Derived.Test.YthabndifdgafbaaGreatDoorPkC1
namespace Go.Proofs.YthabndifdgafbaaGreatDoor.classTouches
open Go Go.ChangeShapes Go.WideShapes Go.ChangeAt Go.RowKit Go.Proofs.YthabndifdgafbaaGreatDoor.RV Go.Proofs.YthabndifdgafbaaGreatDoor.RV.T Go.Proofs.YthabndifdgafbaaGreatDoor.XA.Awk Go.Proofs.YthabndifdgafbaaGreatDoor.XA
open Go.ChangeMaps (open_string shut_string)
set_option linter.unusedVariables false
theorem reads (os : Os) {H : Type} (enc : TypeId × Value → H) : (DataW.whole enc Tryz.prog ((Glo.world0 os).forCall (fun _ _ => 0) ⟨#[], #[.agg #[.int .u8 0, .int .u8 0, .int .u8 0, .int .u8 0, .slice none 0 0, .int .i16 0, .slice none 0 0], .bool false, .int .u8 0], []⟩).memory Tryz.f5.params.toList Rows.classTouchesSpec.vars false #[.agg #[.int .u8 0, .int .u8 0, .int .u8 0, .int .u8 0, .slice none 0 0, .int .i16 0, .slice none 0 0], .bool false, .int .u8 0].toList 8).map (fun x => (x.1, x.2.1)) = some ([.agg [.lit (.int .u8 0), .lit (.int .u8 0), .lit (.int .u8 0), .lit (.int .u8 0), .nil, .lit (.int .i16 0), .nil], .lit (.bool false), .lit (.int .u8 0)], []) := by kernel_rfl
set_option maxRecDepth 100000 in
theorem lifted (os : Os) (started : os.Started) (H : Type) (enc : TypeId × Value → H) (F : Stop.Interp) :
    ReturnsInHanded {} Tryz.checked os 5 .any ((OpenSpec.ofChange Rows.classTouchesSpec).preRow enc Tryz.prog Tryz.f5 Rows.classTouchesRow.domain false Rows.classTouchesRow.laid) (((OpenSpec.ofChange Rows.classTouchesSpec).at F).post enc Tryz.prog Tryz.f5 false true false false) := by
  obtain ⟨⟨x1, x2, x3⟩, hx, hx1⟩ := Option.map_eq_some_iff.1 (reads os enc)
  simp only [Prod.mk.injEq] at hx1
  obtain ⟨rfl, rfl⟩ := hx1
  refine returnsInHanded_of_row (C := Tryz.checked) (s := OpenSpec.ofChange Rows.classTouchesSpec) Glo.own started (by kernel_rfl) Tryz.func5
    (witness_row_at (enc := enc) (C := Tryz.checked) false (Glo.world0 os) #[.agg #[.int .u8 0, .int .u8 0, .int .u8 0, .int .u8 0, .slice none 0 0, .int .i16 0, .slice none 0 0], .bool false, .int .u8 0] rfl (by kernel_rfl) (by kernel_rfl) (by kernel_rfl)
      (OpenSpec.preRow_of_cond 8 hx (by kernel_rfl) (fun k hk => by cases hk) (by kernel_rfl) (Glo.met0 os _))) ?_
  intro W base args ds gs before hval0 hW _ _ hsz0 hL _ _
  have hL' : laidMet Tryz.prog Glo.laid0 W := hL
  have hG := Glo.glob0 hL'
  clear hL hL'
  have hsz : (DataW.weightsEach Tryz.prog (Tryz.f5.params.toList ++ Rows.classTouchesSpec.plain.varTypes Tryz.prog) (ds ++ gs)).all (· ≤ reachBytes) = true := hsz0
  have hval : ∀ (j : Nat) t v, Tryz.f5.params[j]? = some t → args[j]? = some v → Value.okWide Tryz.prog W .any base t v := hval0
  have hW' := hW
  obtain ⟨p, q, hA0, hV, rfl, hfz, hnd⟩ := hW
  have hA : DataW.TrodAll enc Tryz.prog W 0 (fun _ => true) true Tryz.f5.params.toList args.toList ds p := hA0
  rw [Tryz.params5] at hA hval hsz
  obtain ⟨v0, vs0, d0, ds0, p0, q0, hargs, rfl, rfl, h0, r0⟩ := trodAll_cons hA
  obtain ⟨v1, vs1, d1, ds1, p1, q1, rfl, rfl, rfl, h1, r1⟩ := trodAll_cons r0
  obtain ⟨v2, vs2, d2, ds2, p2, q2, rfl, rfl, rfl, h2, r2⟩ := trodAll_cons r1
  obtain ⟨rfl, rfl, rfl⟩ := trodAll_nil r2
  obtain rfl : args = #[v0, v1, v2] := by cases args; simp_all
  obtain ⟨rfl, rfl⟩ := trodVars_none hV
  have k0 := h0
  have lt0 : ∀ x ∈ p0, x.block < W.heap.size := by obtain ⟨m, hm⟩ := k0; exact DataW.trod_lt m _ _ _ hm
  obtain ⟨cs0, rfl, hs0⟩ := okWide_struct Tryz.underlying29 (hval 0 29 v0 rfl rfl)
  obtain ⟨fuel0, hf0⟩ := h0
  obtain ⟨pv0, y0, hD0, hv0, hy0, hl0⟩ := o29 enc W 0 _ true fuel0 _ _ hf0 (fun q hq => of_decide_eq_true (List.all_eq_true.1 hsz q (DataW.weights_mem_each (j := 0) (t := 29) rfl rfl q hq)))
  obtain ⟨x0, rfl, hx0⟩ := hD0
  have V0 : V W noO iota0 _ (.agg cs0) := V.agg_iff.2 ⟨cs0, rfl, hl0⟩
  obtain ⟨a1, rfl, rfl, rfl⟩ := open_bool Tryz.underlying4 (hval 1 4 v1 rfl rfl) h1
  have V1 : V W noO iota0 (.lit (.bool a1)) _ := V.lit_iff.2 rfl
  obtain ⟨a2, rfl, rfl, rfl, wa2⟩ := open_int Tryz.underlying5 (hval 2 5 v2 rfl rfl) h2
  have V2 : V W noO iota0 (.lit (.int .u8 a2)) _ := V.lit_iff.2 rfl
  clear hA0 hval0 hsz0 hsz
  obtain ⟨k, pv, hk, hq⟩ := classTouches_ok ⟨3000, _, runA, rfl⟩ x0 hx0 a1 a2 (wf_rng wa2 rfl rfl)
  refine (callPure_sound (O := noO) cfgOK (exec_sound cfgOK k) (baseA hG _ fun _ h => h) (ι := iota0) (vals := [_, _, _]) (VL.cons_iff.2 ⟨_, _, rfl, V0, VL.cons_iff.2 ⟨_, _, rfl, V1, VL.cons_iff.2 ⟨_, _, rfl, V2, VL.nil_iff.2 rfl⟩⟩⟩) hk).mono ?_
  rintro e W' ⟨x, rfl, hg, hv⟩
  subst hq
  obtain rfl := V.lit_iff.1 hv
  have bel : Below W.heap.size W W' := hg.below
  exact ⟨_, rfl, _, _, _, [], _, [], hW', trodAll_mk1 (shut_bool Tryz.underlying4 _), (trodAll_cons_mk (Below.trod laidOut (by kernel_rfl) (of_decide_eq_true (by kernel_rfl)) k0 bel lt0) (trodAll_cons_mk (shut_bool Tryz.underlying4 _) (trodAll_cons_mk (shut_int Tryz.underlying5 wa2) trodAll_mk0))), rfl, bel.frame _, fun h => by cases h⟩
theorem said : Rows.ClassTouchesSaid :=
  OpenClaim.holds_of_cond 5 Tryz.f5 rfl rfl rfl rfl rfl rfl rfl ⟨rfl, rfl, rfl, rfl, rfl⟩ rfl rfl rfl rfl rfl (by kernel_rfl) Tryz.func5 closed
    (of_decide_eq_true (by kernel_rfl)) (by unfold Func.isWrapper; first | (rw [if_pos (by decide +kernel)]; kernel_rfl) | (rw [if_neg (by decide +kernel)]; exact ⟨rfl, rfl⟩))
    (fun os started H enc _ F => by rw [OpenClaim.pre_eq_preRow]; exact lifted os started H enc F)
theorem plain (f : FuncId) (fn : Func) (hf : Tryz.pinned.checked.prog.funcNamed "transposal/transposallaw16.ClassTouches" = some f) (hfn : Tryz.pinned.checked.prog.funcs[f]? = some fn) :
    true = Tryz.pinned.checked.prog.looks [] ∧ ∀ (j : Nat) t, fn.params[j]? = some t → Tryz.pinned.checked.prog.wantsStandIn t = false := by
  obtain rfl : f = 5 := Option.some.inj ((show Tryz.prog.funcNamed "transposal/transposallaw16.ClassTouches" = some 5 by kernel_rfl).symm.trans hf) |>.symm
  obtain rfl : fn = Tryz.f5 := (Option.some.inj (Tryz.func5.symm.trans hfn)).symm
  refine ⟨by kernel_rfl, fun j t ht => ?_⟩
  rw [Tryz.params5] at ht
  have hm : t = 29 ∨ t = 4 ∨ t = 5 := by simpa using Array.mem_of_getElem? ht
  rcases hm with rfl | rfl | rfl
  · exact (show Tryz.prog.wantsStandIn 29 = false by kernel_rfl)
  · exact (show Tryz.prog.wantsStandIn 4 = false by kernel_rfl)
  · exact (show Tryz.prog.wantsStandIn 5 = false by kernel_rfl)
theorem card : Rows.ClassTouchesCardSaid :=
  Claim7.holds_tied_plain_at .later [] _ _ _ _ said (fun _ h => by cases h) (by kernel_rfl) (fun _ h => by cases h) classTouches_row_tie rfl ⟨rfl, rfl⟩ (by kernel_rfl) rfl plain (by kernel_rfl)
#print axioms card
end Go.Proofs.YthabndifdgafbaaGreatDoor.classTouches
