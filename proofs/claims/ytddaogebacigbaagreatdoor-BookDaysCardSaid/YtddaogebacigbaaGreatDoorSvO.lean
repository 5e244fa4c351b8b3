/- How the arguments' types read as values of the evaluator. Conditions: none. -/
import Derived.Test.YtddaogebacigbaaGreatDoorSvS
import Derived.Test.YtddaogebacigbaaGreatDoorSb6
namespace Go.Proofs.YtddaogebacigbaaGreatDoor
open Go Go.ChangeShapes Go.WideShapes Go.ChangeAt Go.RowKit Go.Proofs.YtddaogebacigbaaGreatDoor.RV Go.Proofs.YtddaogebacigbaaGreatDoor.RV.T Go.Proofs.YtddaogebacigbaaGreatDoor.XA.Awk
set_option linter.unusedVariables false
theorem laidOut : laidOutB Tryz.prog = true := by kernel_rfl
abbrev is139 : PV → Prop := fun p => ∃ x, p = srcP x ∧ SrcOk x
theorem o139 : Opns Tryz.prog 139 is139 := by
  refine Opns.mono (op_struct (Ds := [IsI .u8, IsI .u8, IsI .u8, IsI .u8]) Tryz.underlying139 ⟨by kernel_rfl, op_int Tryz.underlying5, by kernel_rfl, op_int Tryz.underlying5, by kernel_rfl, op_int Tryz.underlying5, by kernel_rfl, op_int Tryz.underlying5, trivial⟩ (by kernel_rfl)) ?_
  rintro p ⟨ps, h, rfl⟩
  obtain ⟨_, ps1, rfl, h1, h⟩ := allD_cons h
  obtain ⟨_, ps2, rfl, h2, h⟩ := allD_cons h
  obtain ⟨_, ps3, rfl, h3, h⟩ := allD_cons h
  obtain ⟨_, ps4, rfl, h4, h⟩ := allD_cons h
  obtain rfl := allD_nil h
  clear h
  obtain ⟨n1, rfl, w1⟩ := h1
  obtain ⟨n2, rfl, w2⟩ := h2
  obtain ⟨n3, rfl, w3⟩ := h3
  obtain ⟨n4, rfl, w4⟩ := h4
  exact ⟨⟨n1, n2, n3, n4⟩, rfl, wf_rng w1 rfl rfl, wf_rng w2 rfl rfl, wf_rng w3 rfl rfl, wf_rng w4 rfl rfl⟩
abbrev is59 : PV → Prop := fun p => ∃ x, p = lvP x ∧ LvOk x
theorem o59 : Opns Tryz.prog 59 is59 := by
  refine Opns.mono (op_struct (Ds := [IsI .u8, IsI .u8, IsI .u8, IsI .i64]) Tryz.underlying59 ⟨by kernel_rfl, op_int Tryz.underlying5, by kernel_rfl, op_int Tryz.underlying5, by kernel_rfl, op_int Tryz.underlying5, by kernel_rfl, op_int Tryz.underlying2, trivial⟩ (by kernel_rfl)) ?_
  rintro p ⟨ps, h, rfl⟩
  obtain ⟨_, ps1, rfl, h1, h⟩ := allD_cons h
  obtain ⟨_, ps2, rfl, h2, h⟩ := allD_cons h
  obtain ⟨_, ps3, rfl, h3, h⟩ := allD_cons h
  obtain ⟨_, ps4, rfl, h4, h⟩ := allD_cons h
  obtain rfl := allD_nil h
  clear h
  obtain ⟨n1, rfl, w1⟩ := h1
  obtain ⟨n2, rfl, w2⟩ := h2
  obtain ⟨n3, rfl, w3⟩ := h3
  obtain ⟨n4, rfl, w4⟩ := h4
  exact ⟨⟨n1, n2, n3, n4⟩, rfl, wf_rng w1 rfl rfl, wf_rng w2 rfl rfl, wf_rng w3 rfl rfl, wf_rng w4 rfl rfl⟩
abbrev is103 : PV → Prop := fun p => ∃ x, p = jvP x ∧ (fun j => ((0 ≤ j.later ∧ j.later ≤ 255) ∧ ∀ y ∈ j.lines, LvOk y)) x
theorem o103 : Opns Tryz.prog 103 is103 := by
  refine Opns.mono (op_struct (Ds := [IsI .u8, IsL 4 (is59)]) Tryz.underlying103 ⟨by kernel_rfl, op_int Tryz.underlying5, by kernel_rfl, op_slice Tryz.underlying101 (o59) (by kernel_rfl) (by decide) (of_decide_eq_true (by kernel_rfl)), trivial⟩ (by kernel_rfl)) ?_
  rintro p ⟨ps, h, rfl⟩
  obtain ⟨_, ps1, rfl, h1, h⟩ := allD_cons h
  obtain ⟨_, ps2, rfl, h2, h⟩ := allD_cons h
  obtain rfl := allD_nil h
  clear h
  obtain ⟨n1, rfl, w1⟩ := h1
  obtain ⟨l2, rfl, b2, w2⟩ := IsL.enc h2
  exact ⟨⟨n1, l2⟩, rfl, wf_rng w1 rfl rfl, w2⟩
abbrev is57 : PV → Prop := fun p => ∃ x, p = bvP x ∧ (fun x => BvOk x ∧ x.js.length ≤ 140737488351232) x
theorem o57 : Opns Tryz.prog 57 is57 := by
  refine Opns.mono (op_struct (Ds := [IsL 4 (is139), IsL 1 (IsI .u16), IsI .i16, IsL 1 (IsI .u8), IsL 2 (is103)]) Tryz.underlying57 ⟨by kernel_rfl, op_slice Tryz.underlying52 (o139) (by kernel_rfl) (by decide) (of_decide_eq_true (by kernel_rfl)), by kernel_rfl, op_slice Tryz.underlying53 (op_int Tryz.underlying26) (by kernel_rfl) (by decide) (of_decide_eq_true (by kernel_rfl)), by kernel_rfl, op_int Tryz.underlying49, by kernel_rfl, op_slice Tryz.underlying54 (op_int Tryz.underlying5) (by kernel_rfl) (by decide) (of_decide_eq_true (by kernel_rfl)), by kernel_rfl, op_slice Tryz.underlying55 (o103) (by kernel_rfl) (by decide) (of_decide_eq_true (by kernel_rfl)), trivial⟩ (by kernel_rfl)) ?_
  rintro p ⟨ps, h, rfl⟩
  obtain ⟨_, ps1, rfl, h1, h⟩ := allD_cons h
  obtain ⟨_, ps2, rfl, h2, h⟩ := allD_cons h
  obtain ⟨_, ps3, rfl, h3, h⟩ := allD_cons h
  obtain ⟨_, ps4, rfl, h4, h⟩ := allD_cons h
  obtain ⟨_, ps5, rfl, h5, h⟩ := allD_cons h
  obtain rfl := allD_nil h
  clear h
  obtain ⟨l1, rfl, b1, w1⟩ := IsL.enc h1
  obtain ⟨l2, rfl, b2, w2⟩ := IsL.ints h2
  obtain ⟨n3, rfl, w3⟩ := h3
  obtain ⟨l4, rfl, b4, w4⟩ := IsL.ints h4
  obtain ⟨l5, rfl, b5, w5⟩ := IsL.enc h5
  exact ⟨⟨l1, l2, n3, l4, l5⟩, rfl, ⟨w1, fun y hy => wf_rng (w2 y hy) rfl rfl, wf_rng w3 rfl rfl, fun y hy => wf_rng (w4 y hy) rfl rfl, w5⟩, b5⟩
end Go.Proofs.YtddaogebacigbaaGreatDoor
