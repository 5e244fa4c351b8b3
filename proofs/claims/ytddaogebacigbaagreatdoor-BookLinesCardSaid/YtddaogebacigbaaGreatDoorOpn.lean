/- The types of the laws' arguments: what reads as such data is told by the print's kinds. No conditions. -/
import Derived.Test.YtddaogebacigbaaGreatDoorXOpen
namespace Go.Proofs.YtddaogebacigbaaGreatDoor.Opn
open Go.RowKit Go.Proofs.YtddaogebacigbaaGreatDoorW.PrintWords Go.Proofs.YtddaogebacigbaaGreatDoorW.PrintLast Go.Proofs.YtddaogebacigbaaGreatDoor.XA
theorem laidOut : laidOutB Tryz.prog = true := by kernel_rfl
set_option maxRecDepth 100000 in
theorem opens139 : XOpen.Opens Tryz.prog 139 XA.k139 (fun x => ((Lit.int .u8 x.f0).wf = true ∧ (Lit.int .u8 x.f1).wf = true ∧ (Lit.int .u8 x.f2).wf = true ∧ (Lit.int .u8 x.f3).wf = true)) := by
  intro H enc w base sp held fuel cs x h hwt
  obtain ⟨xs, n, _, hx, hcl, hlen, hf⟩ := DataW.trod_struct Tryz.underlying139 h
  have hcl' : cs.length = 4 := hcl.trans (by kernel_rfl)
  have hlen' : xs.length = 4 := hlen
  have c0 : Tryz.prog.cellsOf 5 = 1 := by kernel_rfl
  have g0 : DataW.trod enc Tryz.prog w base sp held n 5 ((cs.drop 0).take (Tryz.prog.cellsOf 5)) = xs[0]? := hf 0 _ rfl
  rw [c0, List.getElem?_eq_getElem (show 0 < xs.length by omega)] at g0
  obtain ⟨a0, k0, w0⟩ := (XOpen.opens_int Tryz.underlying5) enc w base sp held n _ _ g0 (fun q hq => hwt q (by rw [hx]; simp only [DataW.weights, Tryz.underlying139]; exact DataW.weights_mem_each (j := 0) (t := 5) rfl (by rw [List.getElem?_map, List.getElem?_eq_getElem (show 0 < xs.length by omega)]; rfl) q hq))
  have c1 : Tryz.prog.cellsOf 5 = 1 := by kernel_rfl
  have g1 : DataW.trod enc Tryz.prog w base sp held n 5 ((cs.drop 1).take (Tryz.prog.cellsOf 5)) = xs[1]? := hf 1 _ rfl
  rw [c1, List.getElem?_eq_getElem (show 1 < xs.length by omega)] at g1
  obtain ⟨a1, k1, w1⟩ := (XOpen.opens_int Tryz.underlying5) enc w base sp held n _ _ g1 (fun q hq => hwt q (by rw [hx]; simp only [DataW.weights, Tryz.underlying139]; exact DataW.weights_mem_each (j := 1) (t := 5) rfl (by rw [List.getElem?_map, List.getElem?_eq_getElem (show 1 < xs.length by omega)]; rfl) q hq))
  have c2 : Tryz.prog.cellsOf 5 = 1 := by kernel_rfl
  have g2 : DataW.trod enc Tryz.prog w base sp held n 5 ((cs.drop 2).take (Tryz.prog.cellsOf 5)) = xs[2]? := hf 2 _ rfl
  rw [c2, List.getElem?_eq_getElem (show 2 < xs.length by omega)] at g2
  obtain ⟨a2, k2, w2⟩ := (XOpen.opens_int Tryz.underlying5) enc w base sp held n _ _ g2 (fun q hq => hwt q (by rw [hx]; simp only [DataW.weights, Tryz.underlying139]; exact DataW.weights_mem_each (j := 2) (t := 5) rfl (by rw [List.getElem?_map, List.getElem?_eq_getElem (show 2 < xs.length by omega)]; rfl) q hq))
  have c3 : Tryz.prog.cellsOf 5 = 1 := by kernel_rfl
  have g3 : DataW.trod enc Tryz.prog w base sp held n 5 ((cs.drop 3).take (Tryz.prog.cellsOf 5)) = xs[3]? := hf 3 _ rfl
  rw [c3, List.getElem?_eq_getElem (show 3 < xs.length by omega)] at g3
  obtain ⟨a3, k3, w3⟩ := (XOpen.opens_int Tryz.underlying5) enc w base sp held n _ _ g3 (fun q hq => hwt q (by rw [hx]; simp only [DataW.weights, Tryz.underlying139]; exact DataW.weights_mem_each (j := 3) (t := 5) rfl (by rw [List.getElem?_map, List.getElem?_eq_getElem (show 3 < xs.length by omega)]; rfl) q hq))
  refine ⟨⟨a0, a1, a2, a3⟩, ?_, ⟨w0, w1, w2, w3⟩⟩
  rw [XOpen.take_last (by omega)] at k3
  have s0 : cs = cs.drop 0 := rfl
  exact ⟨_, _, s0.trans <| XOpen.take_split cs 0 1, k0, ⟨_, _, XOpen.take_split cs 1 1, k1, ⟨_, _, XOpen.take_split cs 2 1, k2, k3⟩⟩⟩
set_option maxRecDepth 100000 in
theorem opens59 : XOpen.Opens Tryz.prog 59 XA.k59 (fun x => ((Lit.int .u8 x.f0).wf = true ∧ (Lit.int .u8 x.f1).wf = true ∧ (Lit.int .u8 x.f2).wf = true ∧ (Lit.int .i64 x.f3).wf = true)) := by
  intro H enc w base sp held fuel cs x h hwt
  obtain ⟨xs, n, _, hx, hcl, hlen, hf⟩ := DataW.trod_struct Tryz.underlying59 h
  have hcl' : cs.length = 4 := hcl.trans (by kernel_rfl)
  have hlen' : xs.length = 4 := hlen
  have c0 : Tryz.prog.cellsOf 5 = 1 := by kernel_rfl
  have g0 : DataW.trod enc Tryz.prog w base sp held n 5 ((cs.drop 0).take (Tryz.prog.cellsOf 5)) = xs[0]? := hf 0 _ rfl
  rw [c0, List.getElem?_eq_getElem (show 0 < xs.length by omega)] at g0
  obtain ⟨a0, k0, w0⟩ := (XOpen.opens_int Tryz.underlying5) enc w base sp held n _ _ g0 (fun q hq => hwt q (by rw [hx]; simp only [DataW.weights, Tryz.underlying59]; exact DataW.weights_mem_each (j := 0) (t := 5) rfl (by rw [List.getElem?_map, List.getElem?_eq_getElem (show 0 < xs.length by omega)]; rfl) q hq))
  have c1 : Tryz.prog.cellsOf 5 = 1 := by kernel_rfl
  have g1 : DataW.trod enc Tryz.prog w base sp held n 5 ((cs.drop 1).take (Tryz.prog.cellsOf 5)) = xs[1]? := hf 1 _ rfl
  rw [c1, List.getElem?_eq_getElem (show 1 < xs.length by omega)] at g1
  obtain ⟨a1, k1, w1⟩ := (XOpen.opens_int Tryz.underlying5) enc w base sp held n _ _ g1 (fun q hq => hwt q (by rw [hx]; simp only [DataW.weights, Tryz.underlying59]; exact DataW.weights_mem_each (j := 1) (t := 5) rfl (by rw [List.getElem?_map, List.getElem?_eq_getElem (show 1 < xs.length by omega)]; rfl) q hq))
  have c2 : Tryz.prog.cellsOf 5 = 1 := by kernel_rfl
  have g2 : DataW.trod enc Tryz.prog w base sp held n 5 ((cs.drop 2).take (Tryz.prog.cellsOf 5)) = xs[2]? := hf 2 _ rfl
  rw [c2, List.getElem?_eq_getElem (show 2 < xs.length by omega)] at g2
  obtain ⟨a2, k2, w2⟩ := (XOpen.opens_int Tryz.underlying5) enc w base sp held n _ _ g2 (fun q hq => hwt q (by rw [hx]; simp only [DataW.weights, Tryz.underlying59]; exact DataW.weights_mem_each (j := 2) (t := 5) rfl (by rw [List.getElem?_map, List.getElem?_eq_getElem (show 2 < xs.length by omega)]; rfl) q hq))
  have c3 : Tryz.prog.cellsOf 2 = 1 := by kernel_rfl
  have g3 : DataW.trod enc Tryz.prog w base sp held n 2 ((cs.drop 3).take (Tryz.prog.cellsOf 2)) = xs[3]? := hf 3 _ rfl
  rw [c3, List.getElem?_eq_getElem (show 3 < xs.length by omega)] at g3
  obtain ⟨a3, k3, w3⟩ := (XOpen.opens_int Tryz.underlying2) enc w base sp held n _ _ g3 (fun q hq => hwt q (by rw [hx]; simp only [DataW.weights, Tryz.underlying59]; exact DataW.weights_mem_each (j := 3) (t := 2) rfl (by rw [List.getElem?_map, List.getElem?_eq_getElem (show 3 < xs.length by omega)]; rfl) q hq))
  refine ⟨⟨a0, a1, a2, a3⟩, ?_, ⟨w0, w1, w2, w3⟩⟩
  rw [XOpen.take_last (by omega)] at k3
  have s0 : cs = cs.drop 0 := rfl
  exact ⟨_, _, s0.trans <| XOpen.take_split cs 0 1, k0, ⟨_, _, XOpen.take_split cs 1 1, k1, ⟨_, _, XOpen.take_split cs 2 1, k2, k3⟩⟩⟩
set_option maxRecDepth 100000 in
theorem opens103 : XOpen.Opens Tryz.prog 103 XA.k103 (fun x => ((Lit.int .u8 x.f0).wf = true ∧ (x.f1.length ≤ maxLen ∧ ∀ y0, y0 ∈ x.f1 → ((Lit.int .u8 y0.f0).wf = true ∧ (Lit.int .u8 y0.f1).wf = true ∧ (Lit.int .u8 y0.f2).wf = true ∧ (Lit.int .i64 y0.f3).wf = true)))) := by
  intro H enc w base sp held fuel cs x h hwt
  obtain ⟨xs, n, _, hx, hcl, hlen, hf⟩ := DataW.trod_struct Tryz.underlying103 h
  have hcl' : cs.length = 2 := hcl.trans (by kernel_rfl)
  have hlen' : xs.length = 2 := hlen
  have c0 : Tryz.prog.cellsOf 5 = 1 := by kernel_rfl
  have g0 : DataW.trod enc Tryz.prog w base sp held n 5 ((cs.drop 0).take (Tryz.prog.cellsOf 5)) = xs[0]? := hf 0 _ rfl
  rw [c0, List.getElem?_eq_getElem (show 0 < xs.length by omega)] at g0
  obtain ⟨a0, k0, w0⟩ := (XOpen.opens_int Tryz.underlying5) enc w base sp held n _ _ g0 (fun q hq => hwt q (by rw [hx]; simp only [DataW.weights, Tryz.underlying103]; exact DataW.weights_mem_each (j := 0) (t := 5) rfl (by rw [List.getElem?_map, List.getElem?_eq_getElem (show 0 < xs.length by omega)]; rfl) q hq))
  have c1 : Tryz.prog.cellsOf 101 = 1 := by kernel_rfl
  have g1 : DataW.trod enc Tryz.prog w base sp held n 101 ((cs.drop 1).take (Tryz.prog.cellsOf 101)) = xs[1]? := hf 1 _ rfl
  rw [c1, List.getElem?_eq_getElem (show 1 < xs.length by omega)] at g1
  obtain ⟨a1, k1, w1⟩ := (XOpen.opens_slice Tryz.underlying101 opens59 (by kernel_rfl)) enc w base sp held n _ _ g1 (fun q hq => hwt q (by rw [hx]; simp only [DataW.weights, Tryz.underlying103]; exact DataW.weights_mem_each (j := 1) (t := 101) rfl (by rw [List.getElem?_map, List.getElem?_eq_getElem (show 1 < xs.length by omega)]; rfl) q hq))
  refine ⟨⟨a0, a1⟩, ?_, ⟨w0, w1⟩⟩
  rw [XOpen.take_last (by omega)] at k1
  have s0 : cs = cs.drop 0 := rfl
  exact ⟨_, _, s0.trans <| XOpen.take_split cs 0 1, k0, k1⟩
set_option maxRecDepth 100000 in
theorem opens57 : XOpen.Opens Tryz.prog 57 XA.k57 (fun x => ((x.f0.length ≤ maxLen ∧ ∀ y0, y0 ∈ x.f0 → ((Lit.int .u8 y0.f0).wf = true ∧ (Lit.int .u8 y0.f1).wf = true ∧ (Lit.int .u8 y0.f2).wf = true ∧ (Lit.int .u8 y0.f3).wf = true)) ∧ (x.f1.length ≤ maxLen ∧ ∀ y0, y0 ∈ x.f1 → (Lit.int .u16 y0).wf = true) ∧ (Lit.int .i16 x.f2).wf = true ∧ (x.f3.length ≤ maxLen ∧ ∀ y0, y0 ∈ x.f3 → (Lit.int .u8 y0).wf = true) ∧ (x.f4.length ≤ maxLen ∧ ∀ y0, y0 ∈ x.f4 → ((Lit.int .u8 y0.f0).wf = true ∧ (y0.f1.length ≤ maxLen ∧ ∀ y1, y1 ∈ y0.f1 → ((Lit.int .u8 y1.f0).wf = true ∧ (Lit.int .u8 y1.f1).wf = true ∧ (Lit.int .u8 y1.f2).wf = true ∧ (Lit.int .i64 y1.f3).wf = true)))))) := by
  intro H enc w base sp held fuel cs x h hwt
  obtain ⟨xs, n, _, hx, hcl, hlen, hf⟩ := DataW.trod_struct Tryz.underlying57 h
  have hcl' : cs.length = 5 := hcl.trans (by kernel_rfl)
  have hlen' : xs.length = 5 := hlen
  have c0 : Tryz.prog.cellsOf 52 = 1 := by kernel_rfl
  have g0 : DataW.trod enc Tryz.prog w base sp held n 52 ((cs.drop 0).take (Tryz.prog.cellsOf 52)) = xs[0]? := hf 0 _ rfl
  rw [c0, List.getElem?_eq_getElem (show 0 < xs.length by omega)] at g0
  obtain ⟨a0, k0, w0⟩ := (XOpen.opens_slice Tryz.underlying52 opens139 (by kernel_rfl)) enc w base sp held n _ _ g0 (fun q hq => hwt q (by rw [hx]; simp only [DataW.weights, Tryz.underlying57]; exact DataW.weights_mem_each (j := 0) (t := 52) rfl (by rw [List.getElem?_map, List.getElem?_eq_getElem (show 0 < xs.length by omega)]; rfl) q hq))
  have c1 : Tryz.prog.cellsOf 53 = 1 := by kernel_rfl
  have g1 : DataW.trod enc Tryz.prog w base sp held n 53 ((cs.drop 1).take (Tryz.prog.cellsOf 53)) = xs[1]? := hf 1 _ rfl
  rw [c1, List.getElem?_eq_getElem (show 1 < xs.length by omega)] at g1
  obtain ⟨a1, k1, w1⟩ := (XOpen.opens_slice Tryz.underlying53 (XOpen.opens_int Tryz.underlying26) (by kernel_rfl)) enc w base sp held n _ _ g1 (fun q hq => hwt q (by rw [hx]; simp only [DataW.weights, Tryz.underlying57]; exact DataW.weights_mem_each (j := 1) (t := 53) rfl (by rw [List.getElem?_map, List.getElem?_eq_getElem (show 1 < xs.length by omega)]; rfl) q hq))
  have c2 : Tryz.prog.cellsOf 49 = 1 := by kernel_rfl
  have g2 : DataW.trod enc Tryz.prog w base sp held n 49 ((cs.drop 2).take (Tryz.prog.cellsOf 49)) = xs[2]? := hf 2 _ rfl
  rw [c2, List.getElem?_eq_getElem (show 2 < xs.length by omega)] at g2
  obtain ⟨a2, k2, w2⟩ := (XOpen.opens_int Tryz.underlying49) enc w base sp held n _ _ g2 (fun q hq => hwt q (by rw [hx]; simp only [DataW.weights, Tryz.underlying57]; exact DataW.weights_mem_each (j := 2) (t := 49) rfl (by rw [List.getElem?_map, List.getElem?_eq_getElem (show 2 < xs.length by omega)]; rfl) q hq))
  have c3 : Tryz.prog.cellsOf 54 = 1 := by kernel_rfl
  have g3 : DataW.trod enc Tryz.prog w base sp held n 54 ((cs.drop 3).take (Tryz.prog.cellsOf 54)) = xs[3]? := hf 3 _ rfl
  rw [c3, List.getElem?_eq_getElem (show 3 < xs.length by omega)] at g3
  obtain ⟨a3, k3, w3⟩ := (XOpen.opens_slice Tryz.underlying54 (XOpen.opens_int Tryz.underlying5) (by kernel_rfl)) enc w base sp held n _ _ g3 (fun q hq => hwt q (by rw [hx]; simp only [DataW.weights, Tryz.underlying57]; exact DataW.weights_mem_each (j := 3) (t := 54) rfl (by rw [List.getElem?_map, List.getElem?_eq_getElem (show 3 < xs.length by omega)]; rfl) q hq))
  have c4 : Tryz.prog.cellsOf 55 = 1 := by kernel_rfl
  have g4 : DataW.trod enc Tryz.prog w base sp held n 55 ((cs.drop 4).take (Tryz.prog.cellsOf 55)) = xs[4]? := hf 4 _ rfl
  rw [c4, List.getElem?_eq_getElem (show 4 < xs.length by omega)] at g4
  obtain ⟨a4, k4, w4⟩ := (XOpen.opens_slice Tryz.underlying55 opens103 (by kernel_rfl)) enc w base sp held n _ _ g4 (fun q hq => hwt q (by rw [hx]; simp only [DataW.weights, Tryz.underlying57]; exact DataW.weights_mem_each (j := 4) (t := 55) rfl (by rw [List.getElem?_map, List.getElem?_eq_getElem (show 4 < xs.length by omega)]; rfl) q hq))
  refine ⟨⟨a0, a1, a2, a3, a4⟩, ?_, ⟨w0, w1, w2, w3, w4⟩⟩
  rw [XOpen.take_last (by omega)] at k4
  have s0 : cs = cs.drop 0 := rfl
  exact ⟨_, _, s0.trans <| XOpen.take_split cs 0 1, k0, ⟨_, _, XOpen.take_split cs 1 1, k1, ⟨_, _, XOpen.take_split cs 2 1, k2, ⟨_, _, XOpen.take_split cs 3 1, k3, k4⟩⟩⟩⟩
set_option maxRecDepth 100000 in
theorem opens28 : XOpen.Opens Tryz.prog 28 XA.k28 (fun x => ((Lit.int .u32 x.f0).wf = true ∧ (Lit.int .u16 x.f1).wf = true ∧ (Lit.int .u16 x.f2).wf = true ∧ (Lit.int .i64 x.f3).wf = true)) := by
  intro H enc w base sp held fuel cs x h hwt
  obtain ⟨xs, n, _, hx, hcl, hlen, hf⟩ := DataW.trod_struct Tryz.underlying28 h
  have hcl' : cs.length = 4 := hcl.trans (by kernel_rfl)
  have hlen' : xs.length = 4 := hlen
  have c0 : Tryz.prog.cellsOf 25 = 1 := by kernel_rfl
  have g0 : DataW.trod enc Tryz.prog w base sp held n 25 ((cs.drop 0).take (Tryz.prog.cellsOf 25)) = xs[0]? := hf 0 _ rfl
  rw [c0, List.getElem?_eq_getElem (show 0 < xs.length by omega)] at g0
  obtain ⟨a0, k0, w0⟩ := (XOpen.opens_int Tryz.underlying25) enc w base sp held n _ _ g0 (fun q hq => hwt q (by rw [hx]; simp only [DataW.weights, Tryz.underlying28]; exact DataW.weights_mem_each (j := 0) (t := 25) rfl (by rw [List.getElem?_map, List.getElem?_eq_getElem (show 0 < xs.length by omega)]; rfl) q hq))
  have c1 : Tryz.prog.cellsOf 26 = 1 := by kernel_rfl
  have g1 : DataW.trod enc Tryz.prog w base sp held n 26 ((cs.drop 1).take (Tryz.prog.cellsOf 26)) = xs[1]? := hf 1 _ rfl
  rw [c1, List.getElem?_eq_getElem (show 1 < xs.length by omega)] at g1
  obtain ⟨a1, k1, w1⟩ := (XOpen.opens_int Tryz.underlying26) enc w base sp held n _ _ g1 (fun q hq => hwt q (by rw [hx]; simp only [DataW.weights, Tryz.underlying28]; exact DataW.weights_mem_each (j := 1) (t := 26) rfl (by rw [List.getElem?_map, List.getElem?_eq_getElem (show 1 < xs.length by omega)]; rfl) q hq))
  have c2 : Tryz.prog.cellsOf 26 = 1 := by kernel_rfl
  have g2 : DataW.trod enc Tryz.prog w base sp held n 26 ((cs.drop 2).take (Tryz.prog.cellsOf 26)) = xs[2]? := hf 2 _ rfl
  rw [c2, List.getElem?_eq_getElem (show 2 < xs.length by omega)] at g2
  obtain ⟨a2, k2, w2⟩ := (XOpen.opens_int Tryz.underlying26) enc w base sp held n _ _ g2 (fun q hq => hwt q (by rw [hx]; simp only [DataW.weights, Tryz.underlying28]; exact DataW.weights_mem_each (j := 2) (t := 26) rfl (by rw [List.getElem?_map, List.getElem?_eq_getElem (show 2 < xs.length by omega)]; rfl) q hq))
  have c3 : Tryz.prog.cellsOf 2 = 1 := by kernel_rfl
  have g3 : DataW.trod enc Tryz.prog w base sp held n 2 ((cs.drop 3).take (Tryz.prog.cellsOf 2)) = xs[3]? := hf 3 _ rfl
  rw [c3, List.getElem?_eq_getElem (show 3 < xs.length by omega)] at g3
  obtain ⟨a3, k3, w3⟩ := (XOpen.opens_int Tryz.underlying2) enc w base sp held n _ _ g3 (fun q hq => hwt q (by rw [hx]; simp only [DataW.weights, Tryz.underlying28]; exact DataW.weights_mem_each (j := 3) (t := 2) rfl (by rw [List.getElem?_map, List.getElem?_eq_getElem (show 3 < xs.length by omega)]; rfl) q hq))
  refine ⟨⟨a0, a1, a2, a3⟩, ?_, ⟨w0, w1, w2, w3⟩⟩
  rw [XOpen.take_last (by omega)] at k3
  have s0 : cs = cs.drop 0 := rfl
  exact ⟨_, _, s0.trans <| XOpen.take_split cs 0 1, k0, ⟨_, _, XOpen.take_split cs 1 1, k1, ⟨_, _, XOpen.take_split cs 2 1, k2, k3⟩⟩⟩
end Go.Proofs.YtddaogebacigbaaGreatDoor.Opn
