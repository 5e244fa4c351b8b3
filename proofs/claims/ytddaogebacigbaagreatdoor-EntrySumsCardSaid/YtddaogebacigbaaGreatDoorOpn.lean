/- The types of the laws' arguments: what reads as such data is told by the print's kinds. No conditions. -/
import Derived.Test.YtddaogebacigbaaGreatDoorXOpen
namespace Go.Proofs.YtddaogebacigbaaGreatDoor.Opn
open Go.RowKit Go.Proofs.YtddaogebacigbaaGreatDoorW.PrintWords Go.Proofs.YtddaogebacigbaaGreatDoorW.PrintLast Go.Proofs.YtddaogebacigbaaGreatDoor.XA
theorem laidOut : laidOutB Tryz.prog = true := by kernel_rfl
set_option maxRecDepth 100000 in
theorem opens28 : XOpen.Opens Tryz.prog 28 XA.k28 (fun x => ((Lit.int .u32 x.f0).wf = true ∧ (Lit.int .u16 x.f1).wf = true ∧ (Lit.int .u16 x.f2).wf = true ∧ (Lit.int .i64 x.f3).wf = true)) := by
  intro H enc w base sp held fuel cs x h hwt
  obtain ⟨xs, n, _, hx, hcl, hlen, hf⟩ := DataW.trod_struct Tryz.underlying28 h
  have hcl' : cs.length = 4 := hcl.trans (by kernel_rfl)
  have hlen' : xs.length = 4 := hlen
  have c0 : Tryz.prog.cellsOf 25 = 1 := by kernel_rfl
  have g0 : DataW.trod enc Tryz.prog w base sp held n 25 ((cs.drop 0).take (Tryz.prog.cellsOf 25)) = xs[0]? := hf 0 _ rfl
  rw [c0, List.getElem?_eq_getElem (show 0 < xs.length by omega)] at g0
  obtain ⟨a0, k0, w0⟩ := (XOpen.opens_int Tryz.underlying25) enc w base sp held n _ _ g0 (fun q hq => hwt q (by rw [hx]; simp only [DataW.weights, Tryz.underlying28]; exact DataW.weights_mem_each (j := 0) (t := 25) rfl (by rw [List.getElem?_map, List.getElem?_eq_getElem (show 0 < xs.length by omega)]; rfl) q hq))
  have c1 : Tryz.prog.cellsOf 26 = 1 := by kernel_rfl
  have g1 : DataW.trod enc Tryz.prog w base sp held n 26 ((cs.drop 1).take (Tryz.prog.cellsOf 26)) = xs[1]? := hf 1 _ rfl
  rw [c1, List.getElem?_eq_getElem (show 1 < xs.length by omega)] at g1
  obtain ⟨a1, k1, w1⟩ := (XOpen.opens_int Tryz.underlying26) enc w base sp held n _ _ g1 (fun q hq => hwt q (by rw [hx]; simp only [DataW.weights, Tryz.underlying28]; exact DataW.weights_mem_each (j := 1) (t := 26) rfl (by rw [List.getElem?_map, List.getElem?_eq_getElem (show 1 < xs.length by omega)]; rfl) q hq))
  have c2 : Tryz.prog.cellsOf 26 = 1 := by kernel_rfl
  have g2 : DataW.trod enc Tryz.prog w base sp held n 26 ((cs.drop 2).take (Tryz.prog.cellsOf 26)) = xs[2]? := hf 2 _ rfl
  rw [c2, List.getElem?_eq_getElem (show 2 < xs.length by omega)] at g2
  obtain ⟨a2, k2, w2⟩ := (XOpen.opens_int Tryz.underlying26) enc w base sp held n _ _ g2 (fun q hq => hwt q (by rw [hx]; simp only [DataW.weights, Tryz.underlying28]; exact DataW.weights_mem_each (j := 2) (t := 26) rfl (by rw [List.getElem?_map, List.getElem?_eq_getElem (show 2 < xs.length by omega)]; rfl) q hq))
  have c3 : Tryz.prog.cellsOf 2 = 1 := by kernel_rfl
  have g3 : DataW.trod enc Tryz.prog w base sp held n 2 ((cs.drop 3).take (Tryz.prog.cellsOf 2)) = xs[3]? := hf 3 _ rfl
  rw [c3, List.getElem?_eq_getElem (show 3 < xs.length by omega)] at g3
  obtain ⟨a3, k3, w3⟩ := (XOpen.opens_int Tryz.underlying2) enc w base sp held n _ _ g3 (fun q hq => hwt q (by rw [hx]; simp only [DataW.weights, Tryz.underlying28]; exact DataW.weights_mem_each (j := 3) (t := 2) rfl (by rw [List.getElem?_map, List.getElem?_eq_getElem (show 3 < xs.length by omega)]; rfl) q hq))
  refine ⟨⟨a0, a1, a2, a3⟩, ?_, ⟨w0, w1, w2, w3⟩⟩
  rw [XOpen.take_last (by omega)] at k3
  have s0 : cs = cs.drop 0 := rfl
  exact ⟨_, _, s0.trans <| XOpen.take_split cs 0 1, k0, ⟨_, _, XOpen.take_split cs 1 1, k1, ⟨_, _, XOpen.take_split cs 2 1, k2, k3⟩⟩⟩
end Go.Proofs.YtddaogebacigbaaGreatDoor.Opn
