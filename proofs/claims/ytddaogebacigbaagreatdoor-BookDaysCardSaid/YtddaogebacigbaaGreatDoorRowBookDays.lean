/- The law BookDays: its row and its card, proved out of the symbolic run of the Go function. Conditions: none beyond the given row's. -/
import Derived.Test.YtddaogebacigbaaGreatDoorGlo
import Derived.Test.YtddaogebacigbaaGreatDoorSvO
import Derived.Test.YtddaogebacigbaaGreatDoorSvK
import Derived.Test.YtddaogebacigbaaGreatDoorSb9
namespace Go.Proofs.YtddaogebacigbaaGreatDoor.bookDays
open Go Go.ChangeShapes Go.WideShapes Go.ChangeAt Go.RowKit Go.Proofs.YtddaogebacigbaaGreatDoor.RV Go.Proofs.YtddaogebacigbaaGreatDoor.RV.T Go.Proofs.YtddaogebacigbaaGreatDoor.XA.Awk Go.Proofs.YtddaogebacigbaaGreatDoor.XA
open Go.ChangeMaps (open_string shut_string)
set_option linter.unusedVariables false
theorem reads (os : Os) {H : Type} (enc : TypeId × Value → H) : (DataW.whole enc Tryz.prog ((Glo.world0 os).forCall (fun _ _ => 0) ⟨#[], #[.agg #[.slice none 0 0, .slice none 0 0, .int .i16 0, .slice none 0 0, .slice none 0 0]], []⟩).memory Tryz.f8.params.toList Rows.bookDaysSpec.vars false #[.agg #[.slice none 0 0, .slice none 0 0, .int .i16 0, .slice none 0 0, .slice none 0 0]].toList 8).map (fun x => (x.1, x.2.1)) = some ([.agg [.nil, .nil, .lit (.int .i16 0), .nil, .nil]], []) := by kernel_rfl
set_option maxRecDepth 100000 in
theorem lifted (os : Os) (started : os.Started) (H : Type) (enc : TypeId × Value → H) (F : Stop.Interp) :
    ReturnsInHanded {} Tryz.checked os 8 .any ((OpenSpec.ofChange Rows.bookDaysSpec).preRow enc Tryz.prog Tryz.f8 Rows.bookDaysRow.domain false Rows.bookDaysRow.laid) (((OpenSpec.ofChange Rows.bookDaysSpec).at F).post enc Tryz.prog Tryz.f8 false true false false) := by
  obtain ⟨⟨x1, x2, x3⟩, hx, hx1⟩ := Option.map_eq_some_iff.1 (reads os enc)
  simp only [Prod.mk.injEq] at hx1
  obtain ⟨rfl, rfl⟩ := hx1
  refine returnsInHanded_of_row (C := Tryz.checked) (s := OpenSpec.ofChange Rows.bookDaysSpec) Glo.own started (by kernel_rfl) Tryz.func8
    (witness_row_at (enc := enc) (C := Tryz.checked) false (Glo.world0 os) #[.agg #[.slice none 0 0, .slice none 0 0, .int .i16 0, .slice none 0 0, .slice none 0 0]] rfl (by kernel_rfl) (by kernel_rfl) (by kernel_rfl)
      (OpenSpec.preRow_of_cond 8 hx (by kernel_rfl) (fun k hk => by cases hk) (by kernel_rfl) (Glo.met0 os _))) ?_
  intro W base args ds gs before hval0 hW _ _ hsz0 hL _ _
  have hL' : laidMet Tryz.prog Glo.laid0 W := hL
  have hG := Glo.glob0 hL'
  clear hL hL'
  have hsz : (DataW.weightsEach Tryz.prog (Tryz.f8.params.toList ++ Rows.bookDaysSpec.plain.varTypes Tryz.prog) (ds ++ gs)).all (· ≤ reachBytes) = true := hsz0
  have hval : ∀ (j : Nat) t v, Tryz.f8.params[j]? = some t → args[j]? = some v → Value.okWide Tryz.prog W .any base t v := hval0
  have hW' := hW
  obtain ⟨p, q, hA0, hV, rfl, hfz, hnd⟩ := hW
  have hA : DataW.TrodAll enc Tryz.prog W 0 (fun _ => true) true Tryz.f8.params.toList args.toList ds p := hA0
  rw [Tryz.params8] at hA hval hsz
  obtain ⟨v0, vs0, d0, ds0, p0, q0, hargs, rfl, rfl, h0, r0⟩ := trodAll_cons hA
  obtain ⟨rfl, rfl, rfl⟩ := trodAll_nil r0
  obtain rfl : args = #[v0] := by cases args; simp_all
  obtain ⟨rfl, rfl⟩ := trodVars_none hV
  have k0 := h0
  have lt0 : ∀ x ∈ p0, x.block < W.heap.size := by obtain ⟨m, hm⟩ := k0; exact DataW.trod_lt m _ _ _ hm
  obtain ⟨cs0, rfl, hs0⟩ := okWide_struct Tryz.underlying57 (hval 0 57 v0 rfl rfl)
  obtain ⟨fuel0, hf0⟩ := h0
  obtain ⟨pv0, y0, hD0, hv0, hy0, hl0⟩ := o57 enc W 0 _ true fuel0 _ _ hf0 (fun q hq => of_decide_eq_true (List.all_eq_true.1 hsz q (DataW.weights_mem_each (j := 0) (t := 57) rfl rfl q hq)))
  obtain ⟨x0, rfl, hx0⟩ := hD0
  have V0 : V W noO iota0 _ (.agg cs0) := V.agg_iff.2 ⟨cs0, rfl, hl0⟩
  clear hA0 hval0 hsz0 hsz
  obtain ⟨k, pv, hk, hq⟩ := bookDays_ok ⟨3000, _, runA, rfl⟩ x0 hx0.1 (Nat.lt_of_le_of_lt hx0.2 (by decide))
  refine (callPure_sound (O := noO) cfgOK (exec_sound cfgOK k) (baseA hG _ fun _ h => h) (ι := iota0) (vals := [_]) (VL.cons_iff.2 ⟨_, _, rfl, V0, VL.nil_iff.2 rfl⟩) hk).mono ?_
  rintro e W' ⟨x, rfl, hg, hv⟩
  subst hq
  obtain rfl := V.lit_iff.1 hv
  have bel : Below W.heap.size W W' := hg.below
  exact ⟨_, rfl, _, _, _, [], _, [], hW', trodAll_mk1 (shut_bool Tryz.underlying4 _), (trodAll_cons_mk (Below.trod laidOut (by kernel_rfl) (of_decide_eq_true (by kernel_rfl)) k0 bel lt0) trodAll_mk0), rfl, bel.frame _, fun h => by cases h⟩
theorem said : Rows.BookDaysSaid :=
  OpenClaim.holds_of_cond 8 Tryz.f8 rfl rfl rfl rfl rfl rfl rfl ⟨rfl, rfl, rfl, rfl, rfl⟩ rfl rfl rfl rfl rfl (by kernel_rfl) Tryz.func8 (by kernel_rfl)
    (of_decide_eq_true (by kernel_rfl)) (by unfold Func.isWrapper; first | (rw [if_pos (by decide +kernel)]; kernel_rfl) | (rw [if_neg (by decide +kernel)]; exact ⟨rfl, rfl⟩))
    (fun os started H enc _ F => by rw [OpenClaim.pre_eq_preRow]; exact lifted os started H enc F)
theorem plain (f : FuncId) (fn : Func) (hf : Tryz.pinned.checked.prog.funcNamed "transposal/transposallaw10.BookDays" = some f) (hfn : Tryz.pinned.checked.prog.funcs[f]? = some fn) :
    true = Tryz.pinned.checked.prog.looks [] ∧ ∀ (j : Nat) t, fn.params[j]? = some t → Tryz.pinned.checked.prog.wantsStandIn t = false := by
  obtain rfl : f = 8 := Option.some.inj ((show Tryz.prog.funcNamed "transposal/transposallaw10.BookDays" = some 8 by kernel_rfl).symm.trans hf) |>.symm
  obtain rfl : fn = Tryz.f8 := (Option.some.inj (Tryz.func8.symm.trans hfn)).symm
  refine ⟨by kernel_rfl, fun j t ht => ?_⟩
  rw [Tryz.params8] at ht
  have hm : t = 57 := by simpa using Array.mem_of_getElem? ht
  subst hm
  exact (show Tryz.prog.wantsStandIn 57 = false by kernel_rfl)
theorem card : Rows.BookDaysCardSaid :=
  Claim7.holds_tied_plain_at .later [] _ _ _ _ said (fun _ h => by cases h) (by kernel_rfl) (fun _ h => by cases h) bookDays_row_tie rfl ⟨rfl, rfl⟩ (by kernel_rfl) rfl plain (by kernel_rfl)
#print axioms card
end Go.Proofs.YtddaogebacigbaaGreatDoor.bookDays
