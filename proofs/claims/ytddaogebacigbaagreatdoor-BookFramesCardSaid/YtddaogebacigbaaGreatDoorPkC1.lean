/- The runs of this program's functions, in one text (part 1 of 2). Conditions: none. -/
import Derived.Test.YtddaogebacigbaaGreatDoorCards
import Derived.Test.YtddaogebacigbaaGreatDoorTie
import Derived.WalkKit
import Derived.ProofKit
import Derived.OpenShut
import Derived.ShutString
import Derived.ChangeOld
import Derived.Below
import Derived.SizedLaws
import Derived.Deep.DeepHandedRow
import Derived.Deep.DeepWitnessRowRef
import Derived.Lib.LaidTab
import Derived.Lib.LaidIn
import Derived.Lib.LaidSlice
import Derived.Stop.LaidErr
import Derived.SliceStrings
import Derived.KernelRfl
import Derived.Test.YtddaogebacigbaaGreatDoorPkA2
import Derived.Test.YtddaogebacigbaaGreatDoorPkD1
section
namespace Go.Proofs.YtddaogebacigbaaGreatDoor.Glo
open Go.ChangeShapes Go.WideShapes Go.ChangeAt Go.RowKit Go.Lib
theorem var_cell {P : Program} {W : World} {n : String} {v : Value} {g : Nat} (h : W.var? P n = some #[v]) (hg : P.globalNamed n = some g) : W.cell? ⟨g, 0, none⟩ = some v := by
  unfold World.var? at h
  rw [hg] at h
  simp only [Option.bind_some] at h
  split at h
  · rename_i cs t f hc
    obtain rfl := Option.some.inj h
    simp [World.cell?, hc]
  · cases h
theorem own : ownKnob Tryz.prog.godebug = none := by kernel_rfl
theorem star : "*" ++ "errors.errorString" = "*errors.errorString" := by decide
theorem rowErr (u : TypeId) (h : Tryz.prog.typeName? 3 u = some "*errors.errorString") : u = 275 :=
  typeName_ptr_named (nm := "errors.errorString") (by rw [star]; kernel_rfl) (by kernel_rfl) (by decide) u (by rw [star]; exact h)
def laid0 : List (String × DataW Unit) := [("math/bits.deBruijn32tab", Rows.laid_math_bits_deBruijn32tab), ("math/bits.deBruijn64tab", Rows.laid_math_bits_deBruijn64tab), ("internal/strconv.uint64pow10", Rows.laid_internal_strconv_uint64pow10), ("unicode/utf8.acceptRanges", Rows.laid_unicode_utf8_acceptRanges), ("strconv.ErrRange", Rows.laid_strconv_ErrRange), ("strconv.ErrSyntax", Rows.laid_strconv_ErrSyntax), ("transposal/day.months", Rows.laid_transposal_day_months), ("unicode/utf8.first", Rows.laid_unicode_utf8_first)]
theorem glob0 {W : World} (h : laidMet Tryz.prog laid0 W) : XA.Glob W := by
  have hm : Lib.TabIs Tryz.prog W "transposal/day.months" .i64 XA.monthsL := Lib.tabIs_of_head (rest := _) (g := 0) (t := 175) (e := 3) (n := 12) (by kernel_rfl) (by kernel_rfl) Tryz.underlying175 Tryz.underlying3 (by kernel_rfl) (by kernel_rfl) (h.tail.tail.tail.tail.tail.tail)
  have hp : Lib.TabIs Tryz.prog W "internal/strconv.uint64pow10" .u64 Lib.pow10Tab := Lib.tabIs_of_head (rest := _) (g := 4) (t := 243) (e := 37) (n := 20) (by kernel_rfl) (by kernel_rfl) Tryz.underlying243 Tryz.underlying37 (by kernel_rfl) (by kernel_rfl) (h.tail.tail)
  obtain ⟨ads, xs, hvs, _⟩ := laid_sentinel (g := 7) (h.tail.tail.tail.tail.tail) (by kernel_rfl) (by kernel_rfl) Tryz.underlying184 rowErr Tryz.underlying275 Tryz.underlying277 rfl rfl Tryz.underlying9 (by kernel_rfl) (by kernel_rfl)
  obtain ⟨adr, xr, hvr, _⟩ := laid_sentinel (g := 8) (h.tail.tail.tail.tail) (by kernel_rfl) (by kernel_rfl) Tryz.underlying184 rowErr Tryz.underlying275 Tryz.underlying277 rfl rfl Tryz.underlying9 (by kernel_rfl) (by kernel_rfl)
  refine ⟨fun i hi => Lib.TabIs.cell hm (g := 0) (by kernel_rfl) i hi, hp, ⟨_, _, var_cell hvs (g := 7) (by kernel_rfl)⟩, ⟨_, _, var_cell hvr (g := 8) (by kernel_rfl)⟩⟩
noncomputable def world0 (os : Os) : World :=
  let N := (World.settled Tryz.prog os).heap.size
  let w0 := World.holding Tryz.prog os ⟨#[.cells #[.string (⟨#[118, 97, 108, 117, 101, 32, 111, 117, 116, 32, 111, 102, 32, 114, 97, 110, 103, 101]⟩ : ByteArray)] 277, .cells #[.string (⟨#[105, 110, 118, 97, 108, 105, 100, 32, 115, 121, 110, 116, 97, 120]⟩ : ByteArray)] 277], #[], []⟩
  let put (h : Array Obj) (g : Nat) (cs : Array Value) : Array Obj := h.modify g fun
    | .cells _ t frozen => .cells cs t frozen
    | o => o
  let h0 := put (w0.heap) 5 #[Value.int .u8 0, Value.int .u8 1, Value.int .u8 28, Value.int .u8 2, Value.int .u8 29, Value.int .u8 14, Value.int .u8 24, Value.int .u8 3, Value.int .u8 30, Value.int .u8 22, Value.int .u8 20, Value.int .u8 15, Value.int .u8 25, Value.int .u8 17, Value.int .u8 4, Value.int .u8 8, Value.int .u8 31, Value.int .u8 27, Value.int .u8 13, Value.int .u8 23, Value.int .u8 21, Value.int .u8 19, Value.int .u8 16, Value.int .u8 7, Value.int .u8 26, Value.int .u8 12, Value.int .u8 18, Value.int .u8 6, Value.int .u8 11, Value.int .u8 5, Value.int .u8 10, Value.int .u8 9]
  let h1 := put (h0) 6 #[Value.int .u8 0, Value.int .u8 1, Value.int .u8 56, Value.int .u8 2, Value.int .u8 57, Value.int .u8 49, Value.int .u8 28, Value.int .u8 3, Value.int .u8 61, Value.int .u8 58, Value.int .u8 42, Value.int .u8 50, Value.int .u8 38, Value.int .u8 29, Value.int .u8 17, Value.int .u8 4, Value.int .u8 62, Value.int .u8 47, Value.int .u8 59, Value.int .u8 36, Value.int .u8 45, Value.int .u8 43, Value.int .u8 51, Value.int .u8 22, Value.int .u8 53, Value.int .u8 39, Value.int .u8 33, Value.int .u8 30, Value.int .u8 24, Value.int .u8 18, Value.int .u8 12, Value.int .u8 5, Value.int .u8 63, Value.int .u8 55, Value.int .u8 48, Value.int .u8 27, Value.int .u8 60, Value.int .u8 41, Value.int .u8 37, Value.int .u8 16, Value.int .u8 46, Value.int .u8 35, Value.int .u8 44, Value.int .u8 21, Value.int .u8 52, Value.int .u8 32, Value.int .u8 23, Value.int .u8 11, Value.int .u8 54, Value.int .u8 26, Value.int .u8 40, Value.int .u8 15, Value.int .u8 34, Value.int .u8 20, Value.int .u8 31, Value.int .u8 10, Value.int .u8 25, Value.int .u8 14, Value.int .u8 19, Value.int .u8 9, Value.int .u8 13, Value.int .u8 8, Value.int .u8 7, Value.int .u8 6]
  let h2 := put (h1) 4 #[Value.int .u64 1, Value.int .u64 10, Value.int .u64 100, Value.int .u64 1000, Value.int .u64 10000, Value.int .u64 100000, Value.int .u64 1000000, Value.int .u64 10000000, Value.int .u64 100000000, Value.int .u64 1000000000, Value.int .u64 10000000000, Value.int .u64 100000000000, Value.int .u64 1000000000000, Value.int .u64 10000000000000, Value.int .u64 100000000000000, Value.int .u64 1000000000000000, Value.int .u64 10000000000000000, Value.int .u64 100000000000000000, Value.int .u64 1000000000000000000, Value.int .u64 10000000000000000000]
  let h3 := put (h2) 3 #[Value.int .u8 128, Value.int .u8 191, Value.int .u8 160, Value.int .u8 191, Value.int .u8 128, Value.int .u8 159, Value.int .u8 144, Value.int .u8 191, Value.int .u8 128, Value.int .u8 143, Value.int .u8 0, Value.int .u8 0, Value.int .u8 0, Value.int .u8 0, Value.int .u8 0, Value.int .u8 0, Value.int .u8 0, Value.int .u8 0, Value.int .u8 0, Value.int .u8 0, Value.int .u8 0, Value.int .u8 0, Value.int .u8 0, Value.int .u8 0, Value.int .u8 0, Value.int .u8 0, Value.int .u8 0, Value.int .u8 0, Value.int .u8 0, Value.int .u8 0, Value.int .u8 0, Value.int .u8 0]
  let h4 := put (h3) 8 #[.iface 275 (.pointer (some ⟨N + 0, 0, none⟩))]
  let h5 := put (h4) 7 #[.iface 275 (.pointer (some ⟨N + 1, 0, none⟩))]
  let h6 := put (h5) 0 #[Value.int .i64 31, Value.int .i64 28, Value.int .i64 31, Value.int .i64 30, Value.int .i64 31, Value.int .i64 30, Value.int .i64 31, Value.int .i64 31, Value.int .i64 30, Value.int .i64 31, Value.int .i64 30, Value.int .i64 31]
  let h7 := put (h6) 2 (Lib.firstTab.map fun z => Value.int .u8 z).toArray
  { w0 with heap := h7 }
noncomputable abbrev N0 : Nat := (World.settled Tryz.prog default).heap.size
theorem met0 (os : Os) (args : Array Value) : laidMet Tryz.prog laid0 ((world0 os).forCall (fun _ _ => 0) ⟨#[], args, []⟩).memory :=
  (LaidIn.of_run [5, 6, 4, 3, 8, N0 + 0, 7, N0 + 1, 0, 2] 8 (by kernel_rfl) (by kernel_rfl) (by kernel_rfl) (by kernel_rfl)).met
end Go.Proofs.YtddaogebacigbaaGreatDoor.Glo
end
section
namespace Go.Proofs.YtddaogebacigbaaGreatDoor.XA
open Go.RowKit Go.Proofs.YtddaogebacigbaaGreatDoorW.PrintWords Go.Proofs.YtddaogebacigbaaGreatDoorW.PrintLast Go.Proofs.YtddaogebacigbaaGreatDoorW.PrintMore
set_option linter.unusedVariables false
set_option linter.unusedSimpArgs false
namespace Awk
open RV
def fnsL : List Nat := [7, 8, 9, 10, 11, 12, 13, 14, 15, 16, 18, 19, 20, 21, 22, 23, 24, 25, 26, 27, 28, 29, 30, 31, 32, 33, 34, 35, 36, 37, 38, 39, 40, 41, 42, 43, 44, 45, 46, 47, 48, 49, 50, 51, 52, 53, 54, 55, 56, 57, 58, 59, 60, 61, 62, 63, 64, 65, 66, 68, 69, 70, 71, 72, 73, 74, 75, 76, 77, 78, 79, 80, 81, 82, 83, 86, 87, 89, 91, 92, 93, 95, 96, 97, 98, 99, 100, 101, 102, 103, 114, 115, 116, 117, 118, 120, 121, 122, 123, 124, 125, 126, 127, 128, 129, 130, 131, 132, 133, 134, 135, 136, 137, 146, 147, 149, 150, 151, 152, 153, 154, 155, 156, 157, 158, 159, 164, 165, 166, 167, 168, 169, 172, 177, 178, 179, 180, 181, 182, 183, 184, 185, 186, 187, 188, 189, 190, 191, 192, 193, 194, 195, 196, 197, 198, 199, 200, 201, 203, 204, 205, 206, 207, 209, 210, 211, 212]
def modeL : List (Nat × Nat) := [(58, 5), (66, 2), (82, 2), (83, 2), (99, 2), (103, 2), (122, 2), (123, 2), (124, 2), (125, 2), (152, 2), (153, 2), (156, 2), (157, 2), (158, 2), (172, 2), (187, 2), (90, 3), (94, 3), (202, 3), (88, 3), (67, 3), (79, 2), (97, 2), (126, 2), (78, 1), (96, 1), (68, 1), (69, 1), (39, 1), (40, 1)]
def ownL : List (Nat × List Nat) := [(7, [5, 9, 17, 21]), (8, [3, 8, 15, 42]), (9, [7, 8, 9, 11, 19, 22, 28, 36, 44, 47, 48, 65, 68, 76, 81, 82, 83]), (10, [9, 20]), (11, [13, 14, 28, 30, 37]), (12, [0, 1, 13, 38, 42, 43, 48, 49, 55, 56, 65, 68, 69, 70]), (13, [1, 5]), (15, [5, 13]), (16, [5, 12]), (18, [4, 6, 27, 43]), (19, [4, 6, 35, 52]), (20, [2, 11]), (22, [1, 6]), (23, [4, 11]), (24, [2, 3, 15, 22, 28, 29]), (25, [4, 5, 31, 47, 48, 49]), (26, [9, 21]), (27, [5, 13]), (28, [2, 3, 6, 10, 23, 44, 49, 50, 52]), (31, [5, 10, 29, 66]), (32, [4, 8, 11, 12, 16, 20, 23, 24, 25, 26, 27, 28, 33, 34, 35, 36, 44, 52, 53, 54, 65, 71, 75, 84, 87, 94, 95, 96, 99, 106, 107, 108, 111, 116, 117, 118, 121, 124, 125, 126, 129, 134, 135, 136, 141, 154, 155, 156, 173, 174, 175, 185, 186, 187, 188, 206, 207, 208, 209]), (33, [5, 8, 26, 59]), (37, [5, 7, 8, 19, 55, 64]), (40, [7, 10, 13]), (42, [4, 28]), (43, [2, 7]), (44, [4, 5, 24, 25, 28]), (45, [4, 5, 16, 17, 25, 26, 27]), (49, [6, 7, 8, 15, 32, 50, 57, 59, 60, 61]), (51, [4, 6, 13, 30, 33, 34, 37, 38, 39]), (52, [4, 16, 20]), (54, [8, 9, 19, 22, 25, 26, 30]), (59, [3]), (60, [7, 13]), (66, [8, 9, 21, 25]), (68, [4, 7, 13, 18, 20]), (71, [4, 6, 7, 18, 53, 62]), (82, [0, 7, 25, 30, 32, 33]), (86, [6, 15]), (89, [6, 12, 25, 32]), (123, [0, 8, 12, 14, 15, 16]), (126, [0, 33, 35, 42, 46, 47, 48]), (127, [0, 33, 35, 44, 48, 49, 50]), (128, [0, 7, 17, 47, 49, 58, 62, 63, 64]), (130, [0, 14, 16, 21, 25, 26, 27]), (131, [0, 42, 44, 51, 55, 56, 57, 79, 81, 88, 92, 93, 94, 117, 119, 126, 130, 131, 132]), (133, [0, 11, 13, 18, 22, 23, 24, 65, 67, 72, 76, 77, 78]), (134, [0, 12, 14, 19, 23, 24, 25, 66, 68, 73, 77, 78, 79, 81, 83, 88, 92, 93, 94, 135, 137, 142, 146, 147, 148, 153, 155, 160, 164, 165, 166]), (152, [0, 7, 11, 12, 13]), (153, [0, 4, 13, 19, 20, 26, 27, 28, 29]), (154, [0, 53, 57, 66, 72, 73, 74]), (156, [0, 3, 10, 11, 12, 19, 20, 21, 28, 29]), (168, [0, 42, 45, 50, 52, 53, 54, 55, 58, 63, 65, 66, 67, 68, 71, 76, 78, 79, 80, 81, 84, 89, 91, 92, 93, 110, 113, 118, 120, 121, 122, 123, 126, 131, 133, 134, 135, 145, 148, 153, 155, 156, 157, 162, 165, 166]), (169, [12, 53, 54, 62, 63, 80, 81, 87, 88, 93]), (172, [3, 19, 22, 23]), (177, [10, 11, 46, 49, 59, 61, 68, 69, 70, 71, 98, 102, 103, 104, 106]), (186, [4, 5, 6, 11, 14, 21, 22]), (193, [4, 5, 10, 17, 18]), (197, [4, 46]), (211, [3, 9, 10])]
def dpL : List (Nat × List Nat) := [(7, [4, 6]), (8, [1]), (9, [3]), (10, [4]), (11, [6, 7]), (12, [10]), (15, [1, 7]), (18, [1, 7, 11, 16, 21]), (19, [1, 7, 13, 19, 24, 29, 45]), (20, [1, 3, 6]), (21, [2, 3, 5, 7, 11, 13]), (23, [1, 5, 17, 22, 28, 34]), (24, [1, 4, 7, 10, 12]), (25, [2, 3, 6, 8, 11, 18, 20, 23, 29, 32, 36, 38, 42]), (26, [2, 3, 12, 15, 26, 31, 41, 48]), (27, [2, 3, 8, 10, 18, 20, 26, 30, 32]), (28, [1, 17]), (29, [1, 5, 9, 14, 16]), (31, [1, 12, 18, 22, 38, 50, 51, 67]), (33, [1, 9, 15, 19, 35, 46, 47, 60]), (34, [2, 3, 7, 8, 10, 11, 15, 16, 18, 19, 24, 25, 26, 28, 29, 30, 35, 36, 37, 39, 40, 41, 47, 50, 55, 58, 67, 73, 82, 88]), (35, [2, 3, 5, 7, 11, 13, 18, 20]), (36, [2, 3, 5, 7, 11, 13]), (39, [1, 6, 11, 16, 19]), (40, [1, 6, 9, 12]), (42, [2, 3, 7, 9, 12, 15, 20]), (44, [2, 3, 14, 17]), (54, [2, 3, 13, 43, 56, 59]), (55, [2, 9, 23]), (61, [2, 7, 13, 17, 21, 28]), (65, [2, 3, 5, 7, 11, 13]), (93, [13]), (100, [2, 6, 11]), (146, [1, 3, 7, 12]), (167, [10]), (185, [2, 7, 15, 22, 31]), (191, [11]), (192, [11]), (204, [10]), (205, [10]), (206, [15]), (207, [15]), (212, [5])]
def badL : List (Nat × List Nat) := [(9, [6, 18]), (49, [12])]
def lookL (l : List (Nat × List Nat)) (f : Nat) : List Nat := match l with | [] => [] | (g, x) :: r => match Nat.beq f g with | true => x | false => lookL r f
def lookN (l : List (Nat × Nat)) (f : Nat) : Nat := match l with | [] => 0 | (g, x) :: r => match Nat.beq f g with | true => x | false => lookN r f
def memN (l : List Nat) (n : Nat) : Bool := match l with | [] => false | x :: r => Nat.beq x n || memN r n
def monthsP : List PV := monthsL.map fun n => PV.lit (.int .i64 n)
def pow10P : List PV := Lib.pow10Tab.map fun n => PV.lit (.int .u64 n)
def indexA : List PV → Option PV
  | [.lit (.string s), .lit (.string ⟨⟨[c]⟩⟩)] => some (.lit (.int .i64 (Lib.indexByte s.data.toList c)))
  | _ => none
def withA : List PV → Option PV
  | [.dsl 1 [.lit (.int .u16 1), .lit (.int .u16 3)] _, .lit (.int .u16 2)] => some (.dsl 1 [.lit (.int .u16 1), .lit (.int .u16 2), .lit (.int .u16 3)] none)
  | _ => none
def specA (f : FuncId) (args : List PV) : Option PV :=
  match Nat.beq f 94 with
  | true => itoaA args
  | false => match Nat.beq f 202 with
    | true => indexA args
    | false => match Nat.beq f 90 with
      | true => withA args
      | false => match Nat.beq f 88 with
        | true => nameA args
        | false => match Nat.beq f 67 with
          | true => nameA args
          | false => none
structure Sp where
  f : FuncId → List PV → Option PV
  itoa : ∀ {n : Int}, (-9223372036854775808 ≤ n ∧ n ≤ 9223372036854775807) → f 94 [i64P n] = some (strP (itoaS n))
  name : ∀ {s : ByteArray}, s.size ≤ 140737488351232 → f 88 [strP s] = some (boolP (nmOk s.data.toList))
  name6 : ∀ {s : ByteArray}, s.size ≤ 140737488351232 → f 67 [strP s] = some (boolP (nmOk s.data.toList))
def sp0 : Sp := { f := specA, itoa := fun h => itoaA_ok h, name := fun h => if_pos h, name6 := fun h => if_pos h }
def globA (g : Nat) : Option (List PV) :=
  match Nat.beq g 0 with
  | true => some monthsP
  | false => match Nat.beq g 4 with
    | true => some pow10P
    | false => none
def lowA : Nat := max (max 0 4) (max 7 8) + 1
theorem staysA (w w' : World) (G : Glob w) (h : ∀ b, b < lowA → w'.heap[b]? = w.heap[b]?) : Glob w' := by
  have hc : ∀ b o, b < lowA → w'.cell? ⟨b, o, none⟩ = w.cell? ⟨b, o, none⟩ := fun b o hb => World.cell?_of_block (h b hb)
  refine ⟨fun i hi => (hc _ _ (by decide)).trans (G.months i hi), ?_, ?_, ?_⟩
  · have := G.pow10
    unfold Lib.TabIs World.var? at this ⊢
    rw [globalPow10] at this ⊢
    simp only [Option.bind_some] at this ⊢
    rw [h _ (by decide)]
    exact this
  · obtain ⟨te, pe, h1⟩ := G.synErr
    exact ⟨te, pe, (hc _ _ (by decide)).trans h1⟩
  · obtain ⟨te, pe, h1⟩ := G.rngErr
    exact ⟨te, pe, (hc _ _ (by decide)).trans h1⟩
noncomputable def cfg (spc : Sp) : Cfg := { P := Tryz.prog, fns := memN fnsL, mode := lookN modeL, spec := spc.f, glob := globA, own := fun f t => memN (lookL ownL f) t, dp := fun f t => memN (lookL dpL f) t, bad := fun f t => memN (lookL badL f) t, gl := lowA, ginv := Glob, gst := staysA }
def allB (p : Nat → Bool) : List Nat → Bool
  | [] => true
  | x :: r => p x && allB p r
theorem allB_mem {p : Nat → Bool} : ∀ {l : List Nat}, allB p l = true → ∀ n, memN l n = true → p n = true
  | [], _, n, h => by cases h
  | x :: r, h, n, hn => by
    simp only [allB, Bool.and_eq_true] at h
    simp only [memN, Bool.or_eq_true] at hn
    rcases hn with hn | hn
    · rw [← Nat.eq_of_beq_eq_true hn]; exact h.1
    · exact allB_mem h.2 n hn
set_option maxRecDepth 100000 in
theorem okL : allB (fnOK (cfg sp0) drawOK) fnsL = true := by kernel_rfl
theorem mode3 : ∀ {l : List (Nat × Nat)} {f : Nat}, lookN l f = 3 → (f, 3) ∈ l
  | [], f, h => by simp [lookN] at h
  | (g, x) :: r, f, h => by
    simp only [lookN] at h
    split at h
    · rename_i e; have e := Nat.eq_of_beq_eq_true e; subst e; subst h; simp
    · exact List.mem_cons_of_mem _ (mode3 h)
theorem told3 (f : Nat) (h : lookN modeL f = 3) : f = 94 ∨ f = 202 ∨ f = 90 ∨ f = 88 ∨ f = 67 := by
  have := mode3 h
  simp [modeL] at this
  omega
set_option maxRecDepth 100000 in
theorem runA : callPure (cfg sp0) (exec (cfg sp0) 3000) 22 [] = some (.lit (.bool true)) := by kernel_rfl
theorem with_ok : unit_Units_With.f 100 [1, 3] 2 = some [1, 2, 3] := by decide +kernel
theorem cell_cells {w : World} {b o : Nat} {v : Value} (h : w.cell? ⟨b, o, none⟩ = some v) : ∃ cs t fz, w.heap[b]? = some (.cells cs t fz) ∧ cs[o]? = some v := by
  unfold World.cell? at h
  split at h
  · rename_i cs t fz hb
    exact ⟨cs, t, fz, hb, by simpa using h⟩
  · cases h
theorem baseA {w : World} (G : Glob w) (O : Nat → Prop) (hO : ∀ b, ¬ O b) : Base (cfg sp0) O w where
  lt := fun b hb => (hO b hb).elim
  glob := by
    intro g l hg
    have hg : globA g = some l := hg
    unfold globA at hg
    split at hg
    · rename_i e
      cases hg
      rw [Nat.eq_of_beq_eq_true e]
      obtain ⟨cs, t, fz, hb, _⟩ := cell_cells (G.months 0 (by decide))
      refine V.dptr_iff.2 ⟨_, 0, monthsL.map (.int .i64), rfl, hO _, ⟨cs, t, fz, hb, fun i y hy => ?_⟩, ?_⟩
      · have hi : i < 12 := by have := (List.getElem?_eq_some_iff.1 hy).1; simpa [monthsL] using this
        obtain ⟨cs2, t2, fz2, hb2, h2⟩ := cell_cells (G.months i hi)
        rw [hb] at hb2
        cases hb2
        rw [Nat.zero_add, h2]
        rw [List.getElem?_map] at hy
        have hm : monthsL[i]? = some (monthsL.getD i 0) := by
          have : i < monthsL.length := hi
          simp [List.getD, this]
        rw [hm] at hy
        exact hy
      · have := VL.lits (w := w) (O := O) (ι := iota0) (monthsL.map (Value.int .i64))
        rw [List.map_map] at this
        exact this
    · split at hg
      · rename_i e
        cases hg
        rw [Nat.eq_of_beq_eq_true e]
        have hp := G.pow10
        unfold Lib.TabIs World.var? at hp
        rw [globalPow10] at hp
        simp only [Option.bind_some] at hp
        split at hp
        · rename_i cs t fz hb
          have hcs := Option.some.inj hp
          refine V.dptr_iff.2 ⟨_, 0, Lib.pow10Tab.map (.int .u64), rfl, hO _, ⟨cs, t, fz, hb, fun i y hy => ?_⟩, ?_⟩
          · rw [Nat.zero_add, hcs]
            simpa using hy
          · have := VL.lits (w := w) (O := O) (ι := iota0) (Lib.pow10Tab.map (Value.int .u64))
            rw [List.map_map] at this
            exact this
        · cases hp
      · cases hg
  low := fun b hb => by
    refine ⟨?_, hO b⟩
    obtain ⟨te, pe, h1⟩ := G.rngErr
    obtain ⟨cs, t, fz, h2, _⟩ := cell_cells h1
    have := (Array.getElem?_eq_some_iff.1 h2).1
    have hb : b < lowA := hb
    have hl : lowA ≤ 9 := by decide
    omega
  ginv := G
theorem args1 {w : World} {O : Nat → Prop} {ι : Iota} {p : PV} {vals : List Value} (h : VL w O ι [p] vals) : ∃ x, vals = [x] ∧ V w O ι p x := by
  obtain ⟨x, xs, rfl, hx, hs⟩ := VL.cons_iff.1 h
  rw [VL.nil_iff] at hs
  subst hs
  exact ⟨x, rfl, hx⟩
theorem args2 {w : World} {O : Nat → Prop} {ι : Iota} {p q : PV} {vals : List Value} (h : VL w O ι [p, q] vals) : ∃ x y, vals = [x, y] ∧ V w O ι p x ∧ V w O ι q y := by
  obtain ⟨x, xs, rfl, hx, hs⟩ := VL.cons_iff.1 h
  obtain ⟨y, rfl, hy⟩ := args1 hs
  exact ⟨x, y, rfl, hx, hy⟩
theorem told_itoa {w : World} {O : Nat → Prop} {args : List PV} {p : PV} {vals : List Value} (hB : Base (cfg sp0) O w) (hv : VL w O iota0 args vals) (h : itoaA args = some p) :
    Calls Tryz.prog 94 vals.toArray w fun e w' => ∃ x, e = .returned x ∧ RV.Grown w w' ∧ V w' O iota0 p x := by
  unfold itoaA at h
  split at h
  · rename_i n
    split at h <;> cases h
    rename_i hn
    obtain ⟨x, rfl, hx⟩ := args1 hv
    obtain rfl := V.lit_iff.1 hx
    refine (strconv_Itoa.calls n _ w hB.ginv (by unfold strconv_Itoa.f; rw [if_pos hn])).mono ?_
    rintro e w' ⟨rfl, hb⟩
    exact ⟨_, rfl, .of_below hb, V.lit_iff.2 rfl⟩
  · cases h
theorem told_index {w : World} {O : Nat → Prop} {args : List PV} {p : PV} {vals : List Value} (hv : VL w O iota0 args vals) (h : indexA args = some p) :
    Calls Tryz.prog 202 vals.toArray w fun e w' => ∃ x, e = .returned x ∧ RV.Grown w w' ∧ V w' O iota0 p x := by
  unfold indexA at h
  split at h
  · rename_i s c
    cases h
    obtain ⟨x, y, rfl, hx, hy⟩ := args2 hv
    obtain rfl := V.lit_iff.1 hx
    obtain rfl := V.lit_iff.1 hy
    refine (Tryz.stringslite_Index_one s c w).mono ?_
    rintro e w' ⟨rfl, rfl⟩
    exact ⟨_, rfl, .refl, V.lit_iff.2 rfl⟩
  · cases h
theorem told_with {w : World} {O : Nat → Prop} {args : List PV} {p : PV} {vals : List Value} (hB : Base (cfg sp0) O w) (hv : VL w O iota0 args vals) (h : withA args = some p) :
    Calls Tryz.prog 90 vals.toArray w fun e w' => ∃ x, e = .returned x ∧ RV.Grown w w' ∧ V w' O iota0 p x := by
  unfold withA at h
  split at h
  · rename_i cap
    cases h
    obtain ⟨x, y, rfl, hx, hy⟩ := args2 hv
    obtain rfl := V.lit_iff.1 hy
    obtain ⟨a, c, rfl, hc, _, hr⟩ := V.dsl_iff.1 hx
    rcases hr with hr | ⟨b, o, rfl, hOb, hVE⟩
    · cases hr
    have hC : Kd.C (Kd.int .u16) w (some ⟨b, o, none⟩) 2 [1, 3] := by
      refine ⟨rfl, by decide, fun _ => ⟨_, rfl, fun j q hq => ⟨[.int .u16 q], rfl, rfl, fun i u hu => ?_⟩⟩⟩
      have hl : ([.lit (.int .u16 1), .lit (.int .u16 3)] : List PV)[j]? = some (.lit (.int .u16 q)) := by
        rcases j with _ | _ | j <;> simp at hq <;> subst hq <;> simp
      obtain ⟨y, hy2, _, cs, t, fz, hb, hg⟩ := hVE.get j _ hl
      obtain rfl := V.lit_iff.1 hy2
      have hi : i = 0 := by have := (List.getElem?_eq_some_iff.1 hu).1; simpa using this
      subst hi
      have hu : Value.int .u16 q = u := by simpa using hu
      show w.cell? ((⟨b, o, none⟩ : Addr).add (j * 1 + 0)) = some u
      rw [Addr.add_mid, cell_of_row w b _ cs t fz hb, ← hu]
      have := hg 0 (.int .u16 q) rfl
      rw [← this]
      congr 1
    refine (unit_Units_With.calls 100 _ c [1, 3] 2 [1, 2, 3] w hC hc with_ok).mono ?_
    rintro e w' ⟨v, rfl, hR, hb⟩
    refine ⟨v, rfl, .of_below hb, ?_⟩
    obtain ⟨A, c2, rfl, hl, hC2⟩ := Kd.R_reads hR
    obtain ⟨_, inner, hown, _⟩ := hR
    rcases hown.2 with ⟨hv, _⟩ | ⟨g, cap2, cur, hv, hge, hheap, _⟩
    · cases hv
    cases hv
    obtain ⟨ad, had, hcell⟩ := hC2.2.2 (by decide)
    cases had
    refine V.dsl_iff.2 ⟨_, _, rfl, hl, fun k h => (by cases h), .inr ⟨g, 0, rfl, fun hh => absurd (hB.lt _ hh) (by omega), VE.of_get fun i q hq => ?_⟩⟩
    have hq2 : ∃ z, ([1, 2, 3] : List Int)[i]? = some z ∧ q = .lit (.int .u16 z) := by
      rcases i with _ | _ | _ | i <;> simp at hq <;> subst hq <;> simp
    obtain ⟨z, hz, rfl⟩ := hq2
    obtain ⟨cc, _, hcc, hget⟩ := hcell i z hz
    have hcc : cc = [Value.int .u16 z] := hcc
    have h0 : w'.cell? ((⟨g, 0, none⟩ : Addr).add (i * 1 + 0)) = some (.int .u16 z) := hget 0 _ (by rw [hcc]; rfl)
    rw [Addr.add_mid, cell_of_row w' g _ cur _ _ hheap] at h0
    refine ⟨.int .u16 z, V.lit_iff.2 rfl, rfl, cur, _, _, hheap, fun j y hy => ?_⟩
    have hj : j = 0 := by have := (List.getElem?_eq_some_iff.1 hy).1; simpa [Value.cells] using this
    subst hj
    have hy : Value.int .u16 z = y := by simpa [Value.cells] using hy
    rw [← hy, ← h0]
    congr 1
  · cases h
theorem told_name {w : World} {O : Nat → Prop} {args : List PV} {p : PV} {vals : List Value} (hv : VL w O iota0 args vals) (h : nameA args = some p) :
    Calls Tryz.prog 88 vals.toArray w fun e w' => ∃ x, e = .returned x ∧ RV.Grown w w' ∧ V w' O iota0 p x := by
  unfold nameA at h
  split at h
  · split at h <;> cases h
    obtain ⟨x, rfl, hx⟩ := args1 hv
    obtain rfl := V.lit_iff.1 hx
    refine (chart_Name.calls _ _ w rfl).mono ?_
    rintro e w' ⟨rfl, hb⟩
    exact ⟨_, rfl, .of_below hb, V.lit_iff.2 rfl⟩
  · cases h
theorem told_name6 {w : World} {O : Nat → Prop} {args : List PV} {p : PV} {vals : List Value} (hv : VL w O iota0 args vals) (h : nameA args = some p) :
    Calls Tryz.prog 67 vals.toArray w fun e w' => ∃ x, e = .returned x ∧ RV.Grown w w' ∧ V w' O iota0 p x := by
  unfold nameA at h
  split at h
  · split at h <;> cases h
    rename_i hs
    obtain ⟨x, rfl, hx⟩ := args1 hv
    obtain rfl := V.lit_iff.1 hx
    refine (transposallaw06_name.calls _ _ w (by unfold transposallaw06_name.f; rw [if_pos hs])).mono ?_
    rintro e w' ⟨rfl, hb⟩
    exact ⟨_, rfl, .of_below hb, V.lit_iff.2 rfl⟩
  · cases h
theorem cfgOK : CfgOK (cfg sp0) drawOK where
  mixed := by kernel_rfl
  fn := fun f h => allB_mem okL f h
  told := fun f h => by
    rcases told3 f h with rfl | rfl | rfl | rfl | rfl
    · exact ⟨_, Tryz.func94, by decide, rfl⟩
    · exact ⟨_, Tryz.func202, by decide, rfl⟩
    · exact ⟨_, Tryz.func90, by decide, rfl⟩
    · exact ⟨_, Tryz.func88, by decide, rfl⟩
    · exact ⟨_, Tryz.func67, by decide, rfl⟩
  spec := fun f args p hm h w O vals hB hv => by
    rcases told3 f hm with rfl | rfl | rfl | rfl | rfl
    · exact told_itoa hB hv h
    · exact told_index hv h
    · exact told_with hB hv h
    · exact told_name hv h
    · exact told_name6 hv h
end Awk
end Go.Proofs.YtddaogebacigbaaGreatDoor.XA
end
section
open Go Go.Proofs.YtddaogebacigbaaGreatDoor.RV Go.Proofs.YtddaogebacigbaaGreatDoor.XA.Awk Go.Proofs.YtddaogebacigbaaGreatDoor.RV.ChartMath Go.Proofs
namespace Go.Proofs.YtddaogebacigbaaGreatDoor.RV.T
set_option maxRecDepth 100000
set_option linter.unusedVariables false
set_option linter.unusedSimpArgs false
variable {spc : Sp}
def noAcc : Acc := ⟨0, .empty, 0, 0⟩
def getP (l : List Acc) (n : Int) : PV := .tup [accP ((find l n).getD noAcc), boolP (find l n).isSome]
theorem find_drop {l : List Acc} {n : Int} {j : Nat} {x : Acc} (hx : l[j]? = some x) : find (l.drop j) n = if x.code == n then some x else find (l.drop (j + 1)) n := by
  unfold find
  rw [drop_at hx, List.find?_cons]
  split <;> simp_all
theorem get_ok (l : List Acc) (p : PV) (n : Int) (hp : IsSl 4 (l.map accP) p) (hl : l.length < 1000000) : Fn (cfg spc) 68 [p, u32P n] (· = getP l n) := by
  refine Fn.go Tryz.func68 (L := [(0, _), (1, _)]) rfl rfl rfl (by simp [deepL, hp.deep, deepB]) rfl ?_
  refine Ps.seq ?_
  refine Ps.region rfl ?_
  refine Rs.alloc (z := .agg [_, _, _, _]) (c := 4) rfl rfl rfl (fun g4 => ?_)
  refine Rs.assign (p := .lit _) rfl rfl ?_
  refine Rs.nil ?_
  refine Ps.thn ?_
  refine Ps.seq ?_
  refine Ps.seq ?_
  refine Ps.region rfl ?_
  refine Rs.move rfl rfl ?_
  first | refine Rs.lenD rfl rfl rfl rfl ?_ | refine Rs.lenO rfl rfl rfl rfl ?_ | refine Rs.lenI rfl rfl rfl rfl ?_ | refine Rs.lenA rfl rfl rfl rfl (by assumption) ?_ | refine Rs.lenS rfl rfl rfl rfl (by assumption) ?_
  refine Rs.move (p := .lit _) rfl rfl ?_
  refine Rs.nil ?_
  refine Ps.thn ?_
  refine Ps.block ?_
  -- loop 1 writes [5, 7, 10, 11, 12, 13, 14, 15, 16, 17, 18, 19]
  refine Ps.loop (J := Nat) ⟨fun j => j ≤ l.length ∧ find (l.drop j) n = find l n, fun j => [(10, i64P j)], fun _ => [(g4, 0, .blk 4 [accP noAcc] true)], fun j => l.length - j⟩ [5, 7, 10, 11, 12, 13, 14, 15, 16, 17, 18, 19] [(9, _), (8, _), (4, _), (0, _), (1, _)] 0 rfl ⟨Nat.zero_le _, rfl⟩ ⟨rfl, trivial⟩ (List.Sublist.refl _) (fun j hj => ?_)
  obtain ⟨hj, hjc⟩ : j ≤ l.length ∧ find (l.drop j) n = find l n := hj
  dsimp only [List.cons_append, List.nil_append]
  refine Ps.seq ?_
  refine Ps.region rfl ?_
  refine Rs.binB rfl rfl rfl rfl rfl rfl ?_
  refine Rs.nil ?_
  refine Ps.thn ?_
  refine Ps.seq ?_
  refine Ps.if rfl (fun hc => ?_) (fun hc => ?_)
  · try replace hc := dc hc
    refine Ps.skip ?_
    refine Ps.thn ?_
    refine Ps.seq ?_
    refine Ps.block ?_
    refine Ps.seq ?_
    have hlt : j < l.length := by simp at hc; omega
    obtain ⟨x, hx⟩ := at_lt hlt
    rw [find_drop hx] at hjc
    refine Ps.region rfl ?_
    first | refine Rs.indexD (lc := [_, _, _, _]) rfl rfl rfl rfl rfl rfl (map_at hx) rfl ?_ | refine Rs.indexS (lc := [_, _, _, _]) rfl rfl rfl rfl rfl (by assumption) rfl (map_at hx) rfl ?_
    first | refine Rs.loadR (p := .agg [_, _, _, _]) rfl rfl rfl rfl ?_ | refine Rs.loadP (p := .agg [_, _, _, _]) 0 rfl rfl rfl rfl rfl ?_ | refine Rs.loadP (p := .agg [_, _, _, _]) 1 rfl rfl rfl rfl rfl ?_ | refine Rs.loadP (p := .agg [_, _, _, _]) 2 rfl rfl rfl rfl rfl ?_ | refine Rs.loadP (p := .agg [_, _, _, _]) 3 rfl rfl rfl rfl rfl ?_
    refine Rs.alloc (z := .agg [_, _, _, _]) (c := 4) rfl rfl rfl (fun g7 => ?_)
    first | refine Rs.store0 (l' := [.agg [_, _, _, _]]) rfl rfl rfl (by first | rfl | exact storeB_ag rfl rfl rfl (by simp [scalars, sc_int, sc_str, sc_bool, sc_nil, sc_dsl, sc_own, sc_g, sc_f, *]) | exact storeB_fld rfl (by first | assumption | exact cl_g | exact cl_f) (by first | assumption | exact sc_g | exact sc_f) rfl) ?_ | refine Rs.store1 (l' := [.agg [_, _, _, _]]) rfl rfl rfl (by first | rfl | exact storeB_ag rfl rfl rfl (by simp [scalars, sc_int, sc_str, sc_bool, sc_nil, sc_dsl, sc_own, sc_g, sc_f, *]) | exact storeB_fld rfl (by first | assumption | exact cl_g | exact cl_f) (by first | assumption | exact sc_g | exact sc_f) rfl) ?_ | refine Rs.store2 (l' := [.agg [_, _, _, _]]) rfl rfl rfl (by first | rfl | exact storeB_ag rfl rfl rfl (by simp [scalars, sc_int, sc_str, sc_bool, sc_nil, sc_dsl, sc_own, sc_g, sc_f, *]) | exact storeB_fld rfl (by first | assumption | exact cl_g | exact cl_f) (by first | assumption | exact sc_g | exact sc_f) rfl) ?_ | refine Rs.store3 (l' := [.agg [_, _, _, _]]) rfl rfl rfl (by first | rfl | exact storeB_ag rfl rfl rfl (by simp [scalars, sc_int, sc_str, sc_bool, sc_nil, sc_dsl, sc_own, sc_g, sc_f, *]) | exact storeB_fld rfl (by first | assumption | exact cl_g | exact cl_f) (by first | assumption | exact sc_g | exact sc_f) rfl) ?_
    refine Rs.nil ?_
    refine Ps.thn ?_
    refine Ps.seq ?_
    refine Ps.region rfl ?_
    first | refine Rs.fieldAddrD (off' := 0) rfl rfl rfl rfl ?_ | refine Rs.fieldAddrP (off' := 0) rfl rfl rfl rfl ?_
    first | refine Rs.loadR rfl rfl rfl rfl ?_ | refine Rs.loadP 0 rfl rfl rfl rfl rfl ?_ | refine Rs.loadP 1 rfl rfl rfl rfl rfl ?_ | refine Rs.loadP 2 rfl rfl rfl rfl rfl ?_ | refine Rs.loadP 3 rfl rfl rfl rfl rfl ?_
    refine Rs.move rfl rfl ?_
    refine Rs.binB rfl rfl rfl rfl rfl rfl ?_
    refine Rs.nil ?_
    refine Ps.thn ?_
    refine Ps.if rfl (fun hc => ?_) (fun hc => ?_)
    · try replace hc := dc hc
      refine Ps.seq ?_
      refine Ps.region rfl ?_
      first | refine Rs.loadR (p := .agg [_, _, _, _]) rfl rfl rfl rfl ?_ | refine Rs.loadP (p := .agg [_, _, _, _]) 0 rfl rfl rfl rfl rfl ?_ | refine Rs.loadP (p := .agg [_, _, _, _]) 1 rfl rfl rfl rfl rfl ?_ | refine Rs.loadP (p := .agg [_, _, _, _]) 2 rfl rfl rfl rfl rfl ?_ | refine Rs.loadP (p := .agg [_, _, _, _]) 3 rfl rfl rfl rfl rfl ?_
      first | refine Rs.store0 (l' := [.agg [_, _, _, _]]) rfl rfl rfl (by first | rfl | exact storeB_ag rfl rfl rfl (by simp [scalars, sc_int, sc_str, sc_bool, sc_nil, sc_dsl, sc_own, sc_g, sc_f, *]) | exact storeB_fld rfl (by first | assumption | exact cl_g | exact cl_f) (by first | assumption | exact sc_g | exact sc_f) rfl) ?_ | refine Rs.store1 (l' := [.agg [_, _, _, _]]) rfl rfl rfl (by first | rfl | exact storeB_ag rfl rfl rfl (by simp [scalars, sc_int, sc_str, sc_bool, sc_nil, sc_dsl, sc_own, sc_g, sc_f, *]) | exact storeB_fld rfl (by first | assumption | exact cl_g | exact cl_f) (by first | assumption | exact sc_g | exact sc_f) rfl) ?_ | refine Rs.store2 (l' := [.agg [_, _, _, _]]) rfl rfl rfl (by first | rfl | exact storeB_ag rfl rfl rfl (by simp [scalars, sc_int, sc_str, sc_bool, sc_nil, sc_dsl, sc_own, sc_g, sc_f, *]) | exact storeB_fld rfl (by first | assumption | exact cl_g | exact cl_f) (by first | assumption | exact sc_g | exact sc_f) rfl) ?_ | refine Rs.store3 (l' := [.agg [_, _, _, _]]) rfl rfl rfl (by first | rfl | exact storeB_ag rfl rfl rfl (by simp [scalars, sc_int, sc_str, sc_bool, sc_nil, sc_dsl, sc_own, sc_g, sc_f, *]) | exact storeB_fld rfl (by first | assumption | exact cl_g | exact cl_f) (by first | assumption | exact sc_g | exact sc_f) rfl) ?_
      refine Rs.assign (p := .lit _) rfl rfl ?_
      refine Rs.nil ?_
      refine Ps.thn ?_
      refine Ps.ret ?_
      refine Ps.blk_ret ?_
      refine Ps.thn_ret ?_
      refine Ps.rnd_ret ?_
      refine Ps.blk_ret ?_
      refine Ps.thn_ret ?_
      -- leaf 1 (ret)
      refine Ps.finP (l := [_, _]) rfl (by (first | refine ResR.cell (p := .agg [_, _, _, _]) 0 rfl rfl rfl ?_ | refine ResR.cell (p := .agg [_, _, _, _]) 1 rfl rfl rfl ?_ | refine ResR.cell (p := .agg [_, _, _, _]) 2 rfl rfl rfl ?_ | refine ResR.cell (p := .agg [_, _, _, _]) 3 rfl rfl rfl ?_); refine ResR.tmp rfl ?_; exact ResR.nil) (by first | rfl | simp [plainP, plainC, cp_lit, cp_dsl, *]) rfl ?_
      first
        | (rw [if_pos (by simpa using hc)] at hjc; simp only [getP, ← hjc]; rfl)
        | (rw [List.drop_eq_nil_of_le (by simp at hc; omega)] at hjc; simp only [getP, ← hjc]; rfl)
    · try replace hc := dc hc
      refine Ps.skip ?_
      refine Ps.blk ?_
      refine Ps.thn ?_
      refine Ps.region rfl ?_
      refine Rs.add rfl rfl rfl (by first | exact W_i64s (by omega) | exact W_i64 (by omega) (by omega) | rfl) ?_
      refine Rs.move rfl rfl ?_
      refine Rs.nil ?_
      -- leaf 2 (round1)
      refine Ps.round (j + 1) ⟨hlt, ?_⟩ (by show l.length - (j + 1) < l.length - j; omega) ⟨rfl, trivial⟩ (by repeat' first | exact HasL.nil | refine HasL.cons rfl ?_) (by repeat' first | exact List.Sublist.refl _ | exact List.nil_sublist _ | exact List.sublist_append_left _ _ | refine List.Sublist.cons_cons _ ?_ | refine List.Sublist.cons _ ?_)
      rw [if_neg (by simpa using hc)] at hjc
      exact hjc
  · try replace hc := dc hc
    refine Ps.exit ?_
    refine Ps.thn_exit ?_
    refine Ps.rnd_exit ?_
    refine Ps.blk_here ?_
    refine Ps.thn ?_
    refine Ps.seq ?_
    refine Ps.region rfl ?_
    refine Rs.buildB (cs := []) (l := [_, _, _, _]) rfl rfl (by first | rfl | simp only [cellsOf]; rfl) rfl ?_
    first | refine Rs.store0 (l' := [.agg [_, _, _, _]]) rfl rfl rfl (by first | rfl | exact storeB_ag rfl rfl rfl (by simp [scalars, sc_int, sc_str, sc_bool, sc_nil, sc_dsl, sc_own, sc_g, sc_f, *]) | exact storeB_fld rfl (by first | assumption | exact cl_g | exact cl_f) (by first | assumption | exact sc_g | exact sc_f) rfl) ?_ | refine Rs.store1 (l' := [.agg [_, _, _, _]]) rfl rfl rfl (by first | rfl | exact storeB_ag rfl rfl rfl (by simp [scalars, sc_int, sc_str, sc_bool, sc_nil, sc_dsl, sc_own, sc_g, sc_f, *]) | exact storeB_fld rfl (by first | assumption | exact cl_g | exact cl_f) (by first | assumption | exact sc_g | exact sc_f) rfl) ?_ | refine Rs.store2 (l' := [.agg [_, _, _, _]]) rfl rfl rfl (by first | rfl | exact storeB_ag rfl rfl rfl (by simp [scalars, sc_int, sc_str, sc_bool, sc_nil, sc_dsl, sc_own, sc_g, sc_f, *]) | exact storeB_fld rfl (by first | assumption | exact cl_g | exact cl_f) (by first | assumption | exact sc_g | exact sc_f) rfl) ?_ | refine Rs.store3 (l' := [.agg [_, _, _, _]]) rfl rfl rfl (by first | rfl | exact storeB_ag rfl rfl rfl (by simp [scalars, sc_int, sc_str, sc_bool, sc_nil, sc_dsl, sc_own, sc_g, sc_f, *]) | exact storeB_fld rfl (by first | assumption | exact cl_g | exact cl_f) (by first | assumption | exact sc_g | exact sc_f) rfl) ?_
    refine Rs.assign (p := .lit _) rfl rfl ?_
    refine Rs.nil ?_
    refine Ps.thn ?_
    refine Ps.ret ?_
    -- leaf 3 (ret)
    refine Ps.finP (l := [_, _]) rfl (by (first | refine ResR.cell (p := .agg [_, _, _, _]) 0 rfl rfl rfl ?_ | refine ResR.cell (p := .agg [_, _, _, _]) 1 rfl rfl rfl ?_ | refine ResR.cell (p := .agg [_, _, _, _]) 2 rfl rfl rfl ?_ | refine ResR.cell (p := .agg [_, _, _, _]) 3 rfl rfl rfl ?_); refine ResR.tmp rfl ?_; exact ResR.nil) (by first | rfl | simp [plainP, plainC, cp_lit, cp_dsl, *]) rfl ?_
    first
      | (rw [if_pos (by simpa using hc)] at hjc; simp only [getP, ← hjc]; rfl)
      | (rw [List.drop_eq_nil_of_le (by simp at hc; omega)] at hjc; simp only [getP, ← hjc]; rfl)
theorem way_ok (l : List Acc) (p : PV) (n : Int) (hp : IsSl 4 (l.map accP) p) (hl : l.length < 1000000) : Fn (cfg spc) 86 [p, u32P n] (· = slP 1 ((way l 13 n).map u32P)) := by
  refine Fn.go Tryz.func86 (L := [(0, _), (1, _)]) rfl rfl rfl (by simp [deepL, hp.deep, deepB]) rfl ?_
  refine Ps.seq ?_
  refine Ps.region rfl ?_
  refine Rs.assign (p := .lit _) rfl rfl ?_
  refine Rs.nil ?_
  refine Ps.thn ?_
  refine Ps.seq ?_
  refine Ps.region rfl ?_
  refine Rs.assign (p := .lit _) rfl rfl ?_
  refine Rs.nil ?_
  refine Ps.thn ?_
  refine Ps.seq ?_
  refine Ps.block ?_
  -- loop 1 writes [1, 5, 6, 7, 8, 9, 10, 11, 12, 13, 14, 15, 16, 17, 18, 19, 20, 21, 22, 23, 24]
  refine Ps.loop (J := List Int × Int × Option (Nat × Nat)) ⟨fun j => j.1.length ≤ 13 ∧ j.1 ++ way l (13 - j.1.length) j.2.1 = way l 13 n ∧ (j.2.2 = none ↔ j.1.map u32P = []), fun j => [(5, gP 1 j.2.2 (j.1.map u32P)), (1, u32P j.2.1)], fun j => gM 1 j.2.2 (j.1.map u32P) ++ [], fun j => 13 - j.1.length⟩ [1, 5, 6, 7, 8, 9, 10, 11, 12, 13, 14, 15, 16, 17, 18, 19, 20, 21, 22, 23, 24] [(4, _), (0, _)] ([], n, none) rfl ⟨by simp, rfl, by simp⟩ ⟨rfl, rfl, trivial⟩ (List.Sublist.refl _) (fun j hj => ?_)
  obtain ⟨acc, code, a⟩ := j
  obtain ⟨hj, hjc, ha⟩ : acc.length ≤ 13 ∧ acc ++ way l (13 - acc.length) code = way l 13 n ∧ (a = none ↔ acc.map u32P = []) := hj
  dsimp only [List.cons_append, List.nil_append]
  refine Ps.seq ?_
  refine Ps.seq ?_
  refine Ps.region rfl ?_
  refine Rs.move rfl rfl ?_
  first | refine Rs.lenD rfl rfl rfl rfl ?_ | refine Rs.lenO rfl rfl rfl rfl ?_ | refine Rs.lenI rfl rfl rfl rfl ?_ | refine Rs.lenA rfl rfl rfl rfl (by assumption) ?_ | refine Rs.lenS rfl rfl rfl rfl (by assumption) ?_
  refine Rs.binB rfl rfl rfl rfl rfl rfl ?_
  refine Rs.nil ?_
  refine Ps.thn ?_
  refine Ps.if rfl (fun hc => ?_) (fun hc => ?_)
  · try replace hc := dc hc
    refine Ps.skip ?_
    refine Ps.thn ?_
    refine Ps.block ?_
    refine Ps.seq ?_
    have hlt : acc.length < 13 := by simp at hc; omega
    refine Ps.region rfl ?_
    refine Rs.move rfl rfl ?_
    refine Rs.move rfl rfl ?_
    refine Rs.call1 rfl rfl rfl (fun H hH => DpL.top (n := 98000) (by repeat' first | exact DpL.nil | apply DpL.cons (Dp.plain _ rfl rfl) | apply DpL.cons (Dp.sl _ (by assumption)) | apply DpL.cons (Dp.up (Dp.g (by assumption) hH (fun x hx => by first | (simp [hx]; done) | exact List.mem_cons_of_mem _ (List.mem_append_left _ hx) | exact List.mem_cons_of_mem _ (List.mem_cons_of_mem _ (List.mem_append_left _ hx)) | exact List.mem_append_left _ hx) (by intro p hp; obtain ⟨x, _, rfl⟩ := List.mem_map.1 hp; rfl) (by simp; omega)) rfl) | apply DpL.cons (Dp.agg (n := 96000) ?_ rfl)) rfl) (get_ok l _ _ hp hl) (by first | (intro p hp; rw [hp]; rfl) | (rintro p ⟨r, rfl, _⟩; rfl)) (fun p14 hp => ?_)
    obtain rfl := hp
    refine Rs.move rfl rfl ?_
    refine Rs.extract rfl rfl rfl ?_
    refine Rs.extract rfl rfl rfl ?_
    refine Rs.alloc (z := .agg [_, _, _, _]) (c := 4) rfl rfl rfl (fun g6 => ?_)
    first | refine Rs.store0 (l' := [.agg [_, _, _, _]]) rfl rfl rfl (by first | rfl | exact storeB_ag rfl rfl rfl (by simp [scalars, sc_int, sc_str, sc_bool, sc_nil, sc_dsl, sc_own, sc_g, sc_f, *]) | exact storeB_fld rfl (by first | assumption | exact cl_g | exact cl_f) (by first | assumption | exact sc_g | exact sc_f) rfl) ?_ | refine Rs.store1 (l' := [.agg [_, _, _, _]]) rfl rfl rfl (by first | rfl | exact storeB_ag rfl rfl rfl (by simp [scalars, sc_int, sc_str, sc_bool, sc_nil, sc_dsl, sc_own, sc_g, sc_f, *]) | exact storeB_fld rfl (by first | assumption | exact cl_g | exact cl_f) (by first | assumption | exact sc_g | exact sc_f) rfl) ?_ | refine Rs.store2 (l' := [.agg [_, _, _, _]]) rfl rfl rfl (by first | rfl | exact storeB_ag rfl rfl rfl (by simp [scalars, sc_int, sc_str, sc_bool, sc_nil, sc_dsl, sc_own, sc_g, sc_f, *]) | exact storeB_fld rfl (by first | assumption | exact cl_g | exact cl_f) (by first | assumption | exact sc_g | exact sc_f) rfl) ?_ | refine Rs.store3 (l' := [.agg [_, _, _, _]]) rfl rfl rfl (by first | rfl | exact storeB_ag rfl rfl rfl (by simp [scalars, sc_int, sc_str, sc_bool, sc_nil, sc_dsl, sc_own, sc_g, sc_f, *]) | exact storeB_fld rfl (by first | assumption | exact cl_g | exact cl_f) (by first | assumption | exact sc_g | exact sc_f) rfl) ?_
    refine Rs.assign rfl rfl ?_
    refine Rs.nil ?_
    refine Ps.thn ?_
    refine Ps.seq ?_
    refine Ps.seq ?_
    refine Ps.region rfl ?_
    refine Rs.move rfl rfl ?_
    refine Rs.not rfl rfl ?_
    refine Rs.nil ?_
    refine Ps.thn ?_
    refine Ps.if rfl (fun hc => ?_) (fun hc => ?_)
    · try replace hc := dc hc
      refine Ps.exit ?_
      refine Ps.thn_exit ?_
      refine Ps.blk_there rfl ?_
      refine Ps.rnd_exit ?_
      refine Ps.blk_here ?_
      refine Ps.thn ?_
      refine Ps.seq ?_
      refine Ps.region rfl ?_
      refine Rs.move rfl rfl ?_
      refine Rs.assign rfl rfl ?_
      refine Rs.nil ?_
      refine Ps.thn ?_
      refine Ps.ret ?_
      -- leaf 1 (ret)
      refine Ps.finG (a := a) rfl (.tmp rfl .nil) ha (by simp) (by intro q hq; obtain ⟨z, _, rfl⟩ := List.mem_map.1 hq; rfl) (by simp; omega) ?_
      congr 2
      rw [← hjc]
      first
        | (have hs : find l code = none := by simpa using hc
           rw [show 13 - acc.length = 13 - acc.length - 1 + 1 by omega, way, hs]; simp)
        | (rw [show 13 - acc.length = 0 by simp at hc; omega, way]; simp)
    · try replace hc := dc hc
      refine Ps.skip ?_
      refine Ps.thn ?_
      refine Ps.seq ?_
      refine Ps.region rfl ?_
      refine Rs.move rfl rfl ?_
      refine Rs.move rfl rfl ?_
      refine Rs.buildSlice (l := [_]) rfl rfl rfl rfl (by first | rfl | simp [deepL, deepB, *]) ?_
      first | refine Rs.append0 1 4 rfl rfl ⟨_, rfl⟩ rfl rfl rfl rfl rfl rfl rfl rfl rfl rfl (by assumption) rfl (by first | rfl | simp [scalarsE, scalars, PV.cells, sc_int, sc_str, sc_bool, sc_nil, sc_dsl, *]) (by simp; omega) (fun a22 ha22 => ?_) | refine Rs.append1 1 4 rfl rfl ⟨_, rfl⟩ rfl rfl rfl rfl rfl rfl rfl rfl rfl rfl (by assumption) rfl (by first | rfl | simp [scalarsE, scalars, PV.cells, sc_int, sc_str, sc_bool, sc_nil, sc_dsl, *]) (by simp; omega) (fun a22 ha22 => ?_) | refine Rs.append2 1 4 rfl rfl ⟨_, rfl⟩ rfl rfl rfl rfl rfl rfl rfl rfl rfl rfl (by assumption) rfl (by first | rfl | simp [scalarsE, scalars, PV.cells, sc_int, sc_str, sc_bool, sc_nil, sc_dsl, *]) (by simp; omega) (fun a22 ha22 => ?_) | refine Rs.append3 1 4 rfl rfl ⟨_, rfl⟩ rfl rfl rfl rfl rfl rfl rfl rfl rfl rfl (by assumption) rfl (by first | rfl | simp [scalarsE, scalars, PV.cells, sc_int, sc_str, sc_bool, sc_nil, sc_dsl, *]) (by simp; omega) (fun a22 ha22 => ?_)
      refine Rs.assign rfl rfl ?_
      refine Rs.nil ?_
      refine Ps.thn ?_
      refine Ps.region rfl ?_
      first | refine Rs.fieldAddrD (off' := 3) rfl rfl rfl rfl ?_ | refine Rs.fieldAddrP (off' := 3) rfl rfl rfl rfl ?_
      first | refine Rs.loadR rfl rfl rfl rfl ?_ | refine Rs.loadP 0 rfl rfl rfl rfl rfl ?_ | refine Rs.loadP 1 rfl rfl rfl rfl rfl ?_ | refine Rs.loadP 2 rfl rfl rfl rfl rfl ?_ | refine Rs.loadP 3 rfl rfl rfl rfl rfl ?_
      refine Rs.assign rfl rfl ?_
      refine Rs.nil ?_
      refine Ps.blk ?_
      -- leaf 2 (round1)
      have hs : (find l code).isSome = true := by simpa using hc
      obtain ⟨x, hx⟩ := Option.isSome_iff_exists.1 hs
      have ee : List.map u32P acc ++ [u32P code] = List.map u32P (acc ++ [code]) := by simp
      rw [ee] at ha22 ⊢
      refine Ps.round (acc ++ [code], x.parent, a22) ⟨by simp; omega, ?_, ha22⟩ (by show 13 - (acc ++ [code]).length < 13 - acc.length; simp; omega) ⟨rfl, ?_, trivial⟩ (by repeat' first | exact HasL.nil | refine HasL.cons rfl ?_) (List.sublist_cons_self _ _)
      · show (acc ++ [code]) ++ way l (13 - (acc ++ [code]).length) x.parent = _
        rw [← hjc, show 13 - acc.length = 13 - (acc ++ [code]).length + 1 by simp; omega, way, hx]
        simp
      · rw [hx]; rfl
  · try replace hc := dc hc
    refine Ps.exit ?_
    refine Ps.thn_exit ?_
    refine Ps.rnd_exit ?_
    refine Ps.blk_here ?_
    refine Ps.thn ?_
    refine Ps.seq ?_
    refine Ps.region rfl ?_
    refine Rs.move rfl rfl ?_
    refine Rs.assign rfl rfl ?_
    refine Rs.nil ?_
    refine Ps.thn ?_
    refine Ps.ret ?_
    -- leaf 3 (ret)
    refine Ps.finG (a := a) rfl (.tmp rfl .nil) ha (by simp) (by intro q hq; obtain ⟨z, _, rfl⟩ := List.mem_map.1 hq; rfl) (by simp; omega) ?_
    congr 2
    rw [← hjc]
    first
      | (have hs : find l code = none := by simpa using hc
         rw [show 13 - acc.length = 13 - acc.length - 1 + 1 by omega, way, hs]; simp)
      | (rw [show 13 - acc.length = 0 by simp at hc; omega, way]; simp)
theorem deep_ok (l : List Acc) (p : PV) (n : Int) (hp : IsSl 4 (l.map accP) p) (hl : l.length < 1000000) : Fn (cfg spc) 69 [p, u32P n] (· = i64P (way l 13 n).length) := by
  refine Fn.go Tryz.func69 (L := [(0, _), (1, _)]) rfl rfl rfl (by simp [deepL, hp.deep, deepB]) rfl ?_
  refine Ps.seq ?_
  refine Ps.region rfl ?_
  refine Rs.assign (p := .lit _) rfl rfl ?_
  refine Rs.nil ?_
  refine Ps.thn ?_
  refine Ps.seq ?_
  have hw := slP_is 1 ((way l 13 n).map u32P)
  refine Ps.region rfl ?_
  refine Rs.move rfl rfl ?_
  refine Rs.move rfl rfl ?_
  refine Rs.call0 rfl rfl rfl (way_ok l _ _ hp hl) (fun p7 hp => ?_)
  obtain rfl := hp
  first | refine Rs.lenD rfl rfl rfl rfl ?_ | refine Rs.lenO rfl rfl rfl rfl ?_ | refine Rs.lenI rfl rfl rfl rfl ?_ | refine Rs.lenA rfl rfl rfl rfl (by assumption) ?_ | refine Rs.lenS rfl rfl rfl rfl (by assumption) ?_
  refine Rs.assign rfl rfl ?_
  refine Rs.nil ?_
  refine Ps.thn ?_
  refine Ps.ret ?_
  -- leaf 1 (ret)
  refine Ps.finP (l := [_]) rfl (by refine ResR.tmp rfl ?_; exact ResR.nil) (by first | rfl | simp [plainP, plainC, cp_lit, cp_dsl, *]) rfl ?_
  simp [one]
def nameB (n : Int) : ByteArray := (([(⟨#[67, 97, 115, 104]⟩ : ByteArray), (⟨#[97]⟩ : ByteArray), (⟨#[66, 97, 110, 107, 32, 49]⟩ : ByteArray), (⟨#[76, 111, 115, 115, 46, 120]⟩ : ByteArray), (⟨#[49, 50, 51, 52, 53, 54, 55, 56, 57, 48, 49, 50, 51, 52, 53, 54, 55, 56, 57, 48, 49, 50, 51, 52, 53, 54, 55, 56, 57, 48]⟩ : ByteArray)] : List ByteArray)[(n % 5).toNat]?).getD .empty
theorem nameB_ok (n : Int) : NameOk (nameB n) := by
  have : n % 5 = 0 ∨ n % 5 = 1 ∨ n % 5 = 2 ∨ n % 5 = 3 ∨ n % 5 = 4 := by omega
  rcases this with e | e | e | e | e <;> unfold nameB <;> rw [e]
  · exact ⟨⟨0, by omega⟩, rfl⟩
  · exact ⟨⟨1, by omega⟩, rfl⟩
  · exact ⟨⟨2, by omega⟩, rfl⟩
  · exact ⟨⟨3, by omega⟩, rfl⟩
  · exact ⟨⟨4, by omega⟩, rfl⟩
theorem name_ok (n : Int) (h0 : 0 ≤ n) : Fn (cfg spc) 77 [u8P n] (· = strP (nameB n)) := by
  refine Fn.go Tryz.func77 (L := [(0, _)]) rfl rfl rfl (by first | rfl | (simp [deepL, deepB, *]; done) | (simp [deepL, deepB, *]; rfl)) rfl ?_
  refine Ps.seq ?_
  refine Ps.region rfl ?_
  refine Rs.assign (p := .lit _) rfl rfl ?_
  refine Rs.nil ?_
  refine Ps.thn ?_
  refine Ps.seq ?_
  obtain ⟨k, hk, hk5⟩ : ∃ k : Nat, n % 5 = (k : Int) ∧ k < 5 := ⟨(n % 5).toNat, by omega, by omega⟩
  refine Ps.region rfl ?_
  refine Rs.buildSlice (l := [_, _, _, _, _]) rfl rfl rfl rfl (by first | rfl | simp [deepL, deepB, *]) ?_
  refine Rs.move rfl rfl ?_
  refine Rs.rem rfl rfl rfl (by omega) (by first | exact Int.tmod_eq_emod_of_nonneg (by omega) | rfl) ?_
  first | refine Rs.indexD (lc := [_]) rfl rfl rfl rfl rfl hk (p := strP (nameB n)) (by have : k = 0 ∨ k = 1 ∨ k = 2 ∨ k = 3 ∨ k = 4 := (by omega); unfold nameB; rw [hk]; rcases this with rfl | rfl | rfl | rfl | rfl <;> rfl) rfl ?_ | refine Rs.indexS (lc := [_]) rfl rfl rfl rfl rfl (by assumption) hk (p := strP (nameB n)) (by have : k = 0 ∨ k = 1 ∨ k = 2 ∨ k = 3 ∨ k = 4 := (by omega); unfold nameB; rw [hk]; rcases this with rfl | rfl | rfl | rfl | rfl <;> rfl) rfl ?_
  first | refine Rs.loadR rfl rfl rfl rfl ?_ | refine Rs.loadP 0 rfl rfl rfl rfl rfl ?_ | refine Rs.loadP 1 rfl rfl rfl rfl rfl ?_ | refine Rs.loadP 2 rfl rfl rfl rfl rfl ?_ | refine Rs.loadP 3 rfl rfl rfl rfl rfl ?_
  refine Rs.assign rfl rfl ?_
  refine Rs.nil ?_
  refine Ps.thn ?_
  refine Ps.ret ?_
  -- leaf 1 (ret)
  refine Ps.finP (l := [_]) rfl (by refine ResR.tmp rfl ?_; exact ResR.nil) (by first | rfl | simp [plainP, plainC, cp_lit, cp_dsl, *]) rfl ?_
  rfl
end Go.Proofs.YtddaogebacigbaaGreatDoor.RV.T
end
section
open Go Go.Proofs.YtddaogebacigbaaGreatDoor.RV Go.Proofs.YtddaogebacigbaaGreatDoor.XA.Awk Go.Proofs.YtddaogebacigbaaGreatDoor.RV.ChartMath Go.Proofs
namespace Go.Proofs.YtddaogebacigbaaGreatDoor.RV.T
set_option maxRecDepth 100000
set_option linter.unusedVariables false
set_option linter.unusedSimpArgs false
variable {spc : Sp}
structure Src where
  code : Int
  kind : Int
  parent : Int
  name : Int
def srcP (x : Src) : PV := .agg [u8P x.code, u8P x.kind, u8P x.parent, u8P x.name]
def SrcOk (x : Src) : Prop := (0 ≤ x.code ∧ x.code ≤ 255) ∧ (0 ≤ x.kind ∧ x.kind ≤ 255) ∧ (0 ≤ x.parent ∧ x.parent ≤ 255) ∧ 0 ≤ x.name ∧ x.name ≤ 255
theorem make06_ok (l : List Src) (p : PV) (hp : IsSl 4 (l.map srcP) p) (hl : l.length < 1000000) (hw : ∀ x ∈ l, SrcOk x) : Fn (cfg spc) 49 [p] (fun q => ∃ c, Made c ∧ (l.length ≤ c.length ∨ 40 ≤ c.length) ∧ q = slP 4 (c.map accP)) := by
  refine Fn.go Tryz.func49 (L := [(0, _)]) rfl rfl rfl (by simp [deepL, hp.deep, deepB]) rfl ?_
  refine Ps.seq ?_
  refine Ps.region rfl ?_
  refine Rs.assign (p := .lit _) rfl rfl ?_
  refine Rs.nil ?_
  refine Ps.thn ?_
  refine Ps.seq ?_
  refine Ps.region rfl ?_
  refine Rs.assign (p := .lit _) rfl rfl ?_
  refine Rs.nil ?_
  refine Ps.thn ?_
  refine Ps.seq ?_
  refine Ps.region rfl ?_
  refine Rs.assign (p := .lit _) rfl rfl ?_
  refine Rs.nil ?_
  refine Ps.thn ?_
  refine Ps.seq ?_
  refine Ps.seq ?_
  refine Ps.region rfl ?_
  refine Rs.move rfl rfl ?_
  first | refine Rs.lenD rfl rfl rfl rfl ?_ | refine Rs.lenO rfl rfl rfl rfl ?_ | refine Rs.lenI rfl rfl rfl rfl ?_ | refine Rs.lenA rfl rfl rfl rfl (by assumption) ?_ | refine Rs.lenS rfl rfl rfl rfl (by assumption) ?_
  refine Rs.move (p := .lit _) rfl rfl ?_
  refine Rs.nil ?_
  refine Ps.thn ?_
  refine Ps.block ?_
  -- loop 1 writes [3, 4, 5, 6, 7, 8, 11, 12, 13, 14, 15, 16, 17, 18, 19, 20, 21, 22, 23, 24, 25, 26, 27, 28, 29, 30, 31, 32, 33, 34, 35, 36, 37, 38, 39, 40, 41, 42, 43, 44, 45, 46, 47, 48, 49, 50, 51, 52, 53, 54, 55, 56, 57, 58, 59, 60, 61, 62, 63, 64, 65, 66]
  refine Ps.loop (J := Nat × List Acc × Int × Option (Nat × Nat)) ⟨fun j => j.1 ≤ l.length ∧ j.1 ≤ 40 ∧ j.2.1.length = j.1 ∧ Made j.2.1 ∧ 0 ≤ j.2.2.1 ∧ j.2.2.1 ≤ 4 * j.1 ∧ (∀ a ∈ j.2.1, a.code ≤ j.2.2.1) ∧ (j.2.2.2 = none ↔ j.2.1.map accP = []), fun j => [(3, gP 4 j.2.2.2 (j.2.1.map accP)), (4, u32P j.2.2.1), (11, i64P j.1)], fun j => gM 4 j.2.2.2 (j.2.1.map accP) ++ [], fun j => l.length - j.1⟩ [3, 4, 5, 6, 7, 8, 11, 12, 13, 14, 15, 16, 17, 18, 19, 20, 21, 22, 23, 24, 25, 26, 27, 28, 29, 30, 31, 32, 33, 34, 35, 36, 37, 38, 39, 40, 41, 42, 43, 44, 45, 46, 47, 48, 49, 50, 51, 52, 53, 54, 55, 56, 57, 58, 59, 60, 61, 62, 63, 64, 65, 66] [(10, _), (9, _), (2, _), (0, _)] (0, [], 0, none) rfl ⟨Nat.zero_le _, by decide, rfl, Made.nil, by decide, by decide, by simp, by simp⟩ ⟨rfl, rfl, rfl, trivial⟩ (List.Sublist.refl _) (fun j hj => ?_)
  obtain ⟨j, c, code, a⟩ := j
  obtain ⟨hj, h40, hcl, hM, hc0, hc1, hca, ha⟩ : j ≤ l.length ∧ j ≤ 40 ∧ c.length = j ∧ Made c ∧ 0 ≤ code ∧ code ≤ 4 * j ∧ (∀ a ∈ c, a.code ≤ code) ∧ (a = none ↔ c.map accP = []) := hj
  dsimp only [List.cons_append, List.nil_append]
  refine Ps.seq ?_
  refine Ps.region rfl ?_
  refine Rs.binB rfl rfl rfl rfl rfl rfl ?_
  refine Rs.nil ?_
  refine Ps.thn ?_
  refine Ps.seq ?_
  refine Ps.if rfl (fun hc => ?_) (fun hc => ?_)
  · try replace hc := dc hc
    refine Ps.skip ?_
    refine Ps.thn ?_
    refine Ps.seq ?_
    refine Ps.block ?_
    refine Ps.seq ?_
    have hlt : j < l.length := by simp at hc; omega
    obtain ⟨x, hx⟩ := at_lt hlt
    obtain ⟨hw1, hw2, hw3, hw4⟩ := hw x (List.mem_of_getElem? hx)
    refine Ps.region rfl ?_
    refine Rs.move rfl rfl ?_
    first | refine Rs.indexD (lc := [_, _, _, _]) rfl rfl rfl rfl rfl rfl (map_at hx) rfl ?_ | refine Rs.indexS (lc := [_, _, _, _]) rfl rfl rfl rfl rfl (by assumption) rfl (map_at hx) rfl ?_
    first | refine Rs.loadR (p := .agg [_, _, _, _]) rfl rfl rfl rfl ?_ | refine Rs.loadP (p := .agg [_, _, _, _]) 0 rfl rfl rfl rfl rfl ?_ | refine Rs.loadP (p := .agg [_, _, _, _]) 1 rfl rfl rfl rfl rfl ?_ | refine Rs.loadP (p := .agg [_, _, _, _]) 2 rfl rfl rfl rfl rfl ?_ | refine Rs.loadP (p := .agg [_, _, _, _]) 3 rfl rfl rfl rfl rfl ?_
    refine Rs.alloc (z := .agg [_, _, _, _]) (c := 4) rfl rfl rfl (fun g6 => ?_)
    refine Rs.assign rfl rfl ?_
    first | refine Rs.store0 (l' := [.agg [_, _, _, _]]) rfl rfl rfl (by first | rfl | exact storeB_ag rfl rfl rfl (by simp [scalars, sc_int, sc_str, sc_bool, sc_nil, sc_dsl, sc_own, sc_g, sc_f, *]) | exact storeB_fld rfl (by first | assumption | exact cl_g | exact cl_f) (by first | assumption | exact sc_g | exact sc_f) rfl) ?_ | refine Rs.store1 (l' := [.agg [_, _, _, _]]) rfl rfl rfl (by first | rfl | exact storeB_ag rfl rfl rfl (by simp [scalars, sc_int, sc_str, sc_bool, sc_nil, sc_dsl, sc_own, sc_g, sc_f, *]) | exact storeB_fld rfl (by first | assumption | exact cl_g | exact cl_f) (by first | assumption | exact sc_g | exact sc_f) rfl) ?_ | refine Rs.store2 (l' := [.agg [_, _, _, _]]) rfl rfl rfl (by first | rfl | exact storeB_ag rfl rfl rfl (by simp [scalars, sc_int, sc_str, sc_bool, sc_nil, sc_dsl, sc_own, sc_g, sc_f, *]) | exact storeB_fld rfl (by first | assumption | exact cl_g | exact cl_f) (by first | assumption | exact sc_g | exact sc_f) rfl) ?_ | refine Rs.store3 (l' := [.agg [_, _, _, _]]) rfl rfl rfl (by first | rfl | exact storeB_ag rfl rfl rfl (by simp [scalars, sc_int, sc_str, sc_bool, sc_nil, sc_dsl, sc_own, sc_g, sc_f, *]) | exact storeB_fld rfl (by first | assumption | exact cl_g | exact cl_f) (by first | assumption | exact sc_g | exact sc_f) rfl) ?_
    refine Rs.nil ?_
    refine Ps.thn ?_
    refine Ps.seq ?_
    refine Ps.seq ?_
    refine Ps.region rfl ?_
    refine Rs.move rfl rfl ?_
    refine Rs.binB rfl rfl rfl rfl rfl rfl ?_
    refine Rs.nil ?_
    refine Ps.thn ?_
    refine Ps.if rfl (fun hc => ?_) (fun hc => ?_)
    · try replace hc := dc hc
      refine Ps.exit ?_
      refine Ps.thn_exit ?_
      refine Ps.blk_there rfl ?_
      refine Ps.thn_exit ?_
      refine Ps.rnd_exit ?_
      refine Ps.blk_here ?_
      refine Ps.thn ?_
      refine Ps.seq ?_
      refine Ps.region rfl ?_
      refine Rs.move rfl rfl ?_
      refine Rs.assign rfl rfl ?_
      refine Rs.nil ?_
      refine Ps.thn ?_
      refine Ps.ret ?_
      -- leaf 1 (ret)
      refine Ps.finG (a := a) rfl (.tmp rfl .nil) ha (by repeat' first | exact List.Sublist.refl _ | exact List.nil_sublist _ | exact List.sublist_append_left _ _ | refine List.Sublist.cons_cons _ ?_ | refine List.Sublist.cons _ ?_) (by intro q hq; obtain ⟨z, _, rfl⟩ := List.mem_map.1 hq; rfl) (by simp; omega) ⟨c, hM, (by first | omega | (simp at hc; omega) | (simp at hg; omega)), rfl⟩
    · try replace hc := dc hc
      refine Ps.skip ?_
      refine Ps.thn ?_
      refine Ps.seq ?_
      refine Ps.region rfl ?_
      refine Rs.move rfl rfl ?_
      first | refine Rs.fieldAddrD (off' := 0) rfl rfl rfl rfl ?_ | refine Rs.fieldAddrP (off' := 0) rfl rfl rfl rfl ?_
      first | refine Rs.loadR rfl rfl rfl rfl ?_ | refine Rs.loadP 0 rfl rfl rfl rfl rfl ?_ | refine Rs.loadP 1 rfl rfl rfl rfl rfl ?_ | refine Rs.loadP 2 rfl rfl rfl rfl rfl ?_ | refine Rs.loadP 3 rfl rfl rfl rfl rfl ?_
      refine Rs.rem rfl rfl rfl (by omega) (by first | exact Int.tmod_eq_emod_of_nonneg (by omega) | rfl) ?_
      refine Rs.convI rfl rfl ⟨_, rfl⟩ rfl rfl (by first | exact W_u32 (by omega) (by omega) | rfl) ?_
      refine Rs.add rfl rfl rfl (by first | exact W_u32 (by omega) (by omega) | rfl) ?_
      refine Rs.add rfl rfl rfl (by first | exact W_u32 (by omega) (by omega) | rfl) ?_
      refine Rs.assign rfl rfl ?_
      refine Rs.nil ?_
      refine Ps.thn ?_
      refine Ps.seq ?_
      refine Ps.region rfl ?_
      refine Rs.move rfl rfl ?_
      first | refine Rs.fieldAddrD (off' := 3) rfl rfl rfl rfl ?_ | refine Rs.fieldAddrP (off' := 3) rfl rfl rfl rfl ?_
      first | refine Rs.loadR rfl rfl rfl rfl ?_ | refine Rs.loadP 0 rfl rfl rfl rfl rfl ?_ | refine Rs.loadP 1 rfl rfl rfl rfl rfl ?_ | refine Rs.loadP 2 rfl rfl rfl rfl rfl ?_ | refine Rs.loadP 3 rfl rfl rfl rfl rfl ?_
      refine Rs.call0 rfl rfl rfl (name_ok _ (by omega)) (fun p28 hp => ?_)
      obtain rfl := hp
      first | refine Rs.fieldAddrD (off' := 1) rfl rfl rfl rfl ?_ | refine Rs.fieldAddrP (off' := 1) rfl rfl rfl rfl ?_
      first | refine Rs.loadR rfl rfl rfl rfl ?_ | refine Rs.loadP 0 rfl rfl rfl rfl rfl ?_ | refine Rs.loadP 1 rfl rfl rfl rfl rfl ?_ | refine Rs.loadP 2 rfl rfl rfl rfl rfl ?_ | refine Rs.loadP 3 rfl rfl rfl rfl rfl ?_
      refine Rs.rem rfl rfl rfl (by omega) (by first | exact Int.tmod_eq_emod_of_nonneg (by omega) | rfl) ?_
      refine Rs.buildB (cs := [(0, [_]), (1, [_]), (2, [_])]) (l := [_, _, _, _]) rfl rfl (by first | rfl | simp only [cellsOf]; rfl) rfl ?_
      refine Rs.alloc (z := .agg [_, _, _, _]) (c := 4) rfl rfl rfl (fun g7 => ?_)
      first | refine Rs.store0 (l' := [.agg [_, _, _, _]]) rfl rfl rfl (by first | rfl | exact storeB_ag rfl rfl rfl (by simp [scalars, sc_int, sc_str, sc_bool, sc_nil, sc_dsl, sc_own, sc_g, sc_f, *]) | exact storeB_fld rfl (by first | assumption | exact cl_g | exact cl_f) (by first | assumption | exact sc_g | exact sc_f) rfl) ?_ | refine Rs.store1 (l' := [.agg [_, _, _, _]]) rfl rfl rfl (by first | rfl | exact storeB_ag rfl rfl rfl (by simp [scalars, sc_int, sc_str, sc_bool, sc_nil, sc_dsl, sc_own, sc_g, sc_f, *]) | exact storeB_fld rfl (by first | assumption | exact cl_g | exact cl_f) (by first | assumption | exact sc_g | exact sc_f) rfl) ?_ | refine Rs.store2 (l' := [.agg [_, _, _, _]]) rfl rfl rfl (by first | rfl | exact storeB_ag rfl rfl rfl (by simp [scalars, sc_int, sc_str, sc_bool, sc_nil, sc_dsl, sc_own, sc_g, sc_f, *]) | exact storeB_fld rfl (by first | assumption | exact cl_g | exact cl_f) (by first | assumption | exact sc_g | exact sc_f) rfl) ?_ | refine Rs.store3 (l' := [.agg [_, _, _, _]]) rfl rfl rfl (by first | rfl | exact storeB_ag rfl rfl rfl (by simp [scalars, sc_int, sc_str, sc_bool, sc_nil, sc_dsl, sc_own, sc_g, sc_f, *]) | exact storeB_fld rfl (by first | assumption | exact cl_g | exact cl_f) (by first | assumption | exact sc_g | exact sc_f) rfl) ?_
      refine Rs.nil ?_
      refine Ps.thn ?_
      refine Ps.seq ?_
      refine Ps.seq ?_
      refine Ps.region rfl ?_
      refine Rs.move rfl rfl ?_
      first | refine Rs.lenD rfl rfl rfl rfl ?_ | refine Rs.lenO rfl rfl rfl rfl ?_ | refine Rs.lenI rfl rfl rfl rfl ?_ | refine Rs.lenA rfl rfl rfl rfl (by assumption) ?_ | refine Rs.lenS rfl rfl rfl rfl (by assumption) ?_
      refine Rs.binB rfl rfl rfl rfl rfl rfl ?_
      refine Rs.move rfl rfl ?_
      refine Rs.guard1 (w' := false) rfl rfl rfl (fun hg => ?_) (fun hg => ?_)
      · try replace hg := dc hg
        first | refine Rs.fieldAddrD (off' := 2) rfl rfl rfl rfl ?_ | refine Rs.fieldAddrP (off' := 2) rfl rfl rfl rfl ?_
        refine Rs.guardT rfl ?_
        first | refine Rs.loadR rfl rfl rfl rfl ?_ | refine Rs.loadP 0 rfl rfl rfl rfl rfl ?_ | refine Rs.loadP 1 rfl rfl rfl rfl rfl ?_ | refine Rs.loadP 2 rfl rfl rfl rfl rfl ?_ | refine Rs.loadP 3 rfl rfl rfl rfl rfl ?_
        refine Rs.guardT rfl ?_
        refine Rs.rem rfl rfl rfl (by omega) (by first | exact Int.tmod_eq_emod_of_nonneg (by omega) | rfl) ?_
        refine Rs.guardT rfl ?_
        refine Rs.binB rfl rfl rfl rfl rfl rfl ?_
        refine Rs.pickT (q := .lit _) rfl rfl rfl rfl ?_
        refine Rs.nil ?_
        refine Ps.thn ?_
        refine Ps.if rfl (fun hc => ?_) (fun hc => ?_)
        · try replace hc := dc hc
          refine Ps.seq ?_
          obtain ⟨⟨id, v⟩, rfl⟩ : ∃ iv, a = some iv := by
            cases a with
            | none => have := ha.1 rfl; simp at this; subst this; simp at hg
            | some iv => exact ⟨iv, rfl⟩
          have hcp : 0 < c.length := by simp at hg; omega
          obtain ⟨q, hq, hql⟩ : ∃ q : Nat, x.parent % ((c.map accP).length : Int) = (q : Int) ∧ q < c.length := by
            refine ⟨(x.parent % (c.length : Int)).toNat, ?_, ?_⟩
            · have := Int.emod_nonneg x.parent (show (c.length : Int) ≠ 0 by omega)
              simp; omega
            · have := Int.emod_lt_of_pos x.parent (show (0 : Int) < c.length by omega)
              have := Int.emod_nonneg x.parent (show (c.length : Int) ≠ 0 by omega)
              omega
          obtain ⟨y, hy⟩ := at_lt hql
          have hym := List.mem_of_getElem? hy
          refine Ps.region rfl ?_
          refine Rs.move rfl rfl ?_
          first | refine Rs.fieldAddrD (off' := 2) rfl rfl rfl rfl ?_ | refine Rs.fieldAddrP (off' := 2) rfl rfl rfl rfl ?_
          first | refine Rs.loadR rfl rfl rfl rfl ?_ | refine Rs.loadP 0 rfl rfl rfl rfl rfl ?_ | refine Rs.loadP 1 rfl rfl rfl rfl rfl ?_ | refine Rs.loadP 2 rfl rfl rfl rfl rfl ?_ | refine Rs.loadP 3 rfl rfl rfl rfl rfl ?_
          refine Rs.convI rfl rfl ⟨_, rfl⟩ rfl rfl (by first | exact W_i64 (by omega) (by omega) | rfl) ?_
          refine Rs.move rfl rfl ?_
          first | refine Rs.lenD rfl rfl rfl rfl ?_ | refine Rs.lenO rfl rfl rfl rfl ?_ | refine Rs.lenI rfl rfl rfl rfl ?_ | refine Rs.lenA rfl rfl rfl rfl (by assumption) ?_ | refine Rs.lenS rfl rfl rfl rfl (by assumption) ?_
          refine Rs.rem rfl rfl rfl (by omega) (by first | exact Int.tmod_eq_emod_of_nonneg (by omega) | rfl) ?_
          refine Rs.indexO rfl rfl rfl rfl rfl hq (by simpa using hql) ?_
          first | refine Rs.loadP (p := accP y) 0 rfl rfl rfl rfl (by unfold partE; rw [Nat.zero_add, map_at hy]; rfl) ?_ | refine Rs.loadP (p := accP y) 1 rfl rfl rfl rfl (by unfold partE; rw [Nat.zero_add, map_at hy]; rfl) ?_ | refine Rs.loadP (p := accP y) 2 rfl rfl rfl rfl (by unfold partE; rw [Nat.zero_add, map_at hy]; rfl) ?_
          refine Rs.alloc (z := .agg [_, _, _, _]) (c := 4) rfl rfl rfl (fun g8 => ?_)
          first | refine Rs.store0 (l' := [.agg [_, _, _, _]]) rfl rfl rfl (by first | rfl | exact storeB_ag rfl rfl rfl (by simp [scalars, sc_int, sc_str, sc_bool, sc_nil, sc_dsl, sc_own, sc_g, sc_f, *]) | exact storeB_fld rfl (by first | assumption | exact cl_g | exact cl_f) (by first | assumption | exact sc_g | exact sc_f) rfl) ?_ | refine Rs.store1 (l' := [.agg [_, _, _, _]]) rfl rfl rfl (by first | rfl | exact storeB_ag rfl rfl rfl (by simp [scalars, sc_int, sc_str, sc_bool, sc_nil, sc_dsl, sc_own, sc_g, sc_f, *]) | exact storeB_fld rfl (by first | assumption | exact cl_g | exact cl_f) (by first | assumption | exact sc_g | exact sc_f) rfl) ?_ | refine Rs.store2 (l' := [.agg [_, _, _, _]]) rfl rfl rfl (by first | rfl | exact storeB_ag rfl rfl rfl (by simp [scalars, sc_int, sc_str, sc_bool, sc_nil, sc_dsl, sc_own, sc_g, sc_f, *]) | exact storeB_fld rfl (by first | assumption | exact cl_g | exact cl_f) (by first | assumption | exact sc_g | exact sc_f) rfl) ?_ | refine Rs.store3 (l' := [.agg [_, _, _, _]]) rfl rfl rfl (by first | rfl | exact storeB_ag rfl rfl rfl (by simp [scalars, sc_int, sc_str, sc_bool, sc_nil, sc_dsl, sc_own, sc_g, sc_f, *]) | exact storeB_fld rfl (by first | assumption | exact cl_g | exact cl_f) (by first | assumption | exact sc_g | exact sc_f) rfl) ?_
          refine Rs.nil ?_
          refine Ps.thn ?_
          refine Ps.seq ?_
          refine Ps.region rfl ?_
          refine Rs.move rfl rfl ?_
          first | refine Rs.fieldAddrD (off' := 0) rfl rfl rfl rfl ?_ | refine Rs.fieldAddrP (off' := 0) rfl rfl rfl rfl ?_
          first | refine Rs.loadR rfl rfl rfl rfl ?_ | refine Rs.loadP 0 rfl rfl rfl rfl rfl ?_ | refine Rs.loadP 1 rfl rfl rfl rfl rfl ?_ | refine Rs.loadP 2 rfl rfl rfl rfl rfl ?_ | refine Rs.loadP 3 rfl rfl rfl rfl rfl ?_
          refine Rs.call1 rfl rfl rfl (fun H hH => DpL.top (n := 98000) (by repeat' first | exact DpL.nil | apply DpL.cons (Dp.plain _ rfl rfl) | apply DpL.cons (Dp.sl _ (by assumption)) | apply DpL.cons (Dp.up (Dp.g (by assumption) hH (fun x hx => by first | (simp [hx]; done) | exact List.mem_cons_of_mem _ (List.mem_append_left _ hx) | exact List.mem_cons_of_mem _ (List.mem_cons_of_mem _ (List.mem_append_left _ hx)) | exact List.mem_append_left _ hx) (by intro p hp; obtain ⟨x, _, rfl⟩ := List.mem_map.1 hp; rfl) (by simp; omega)) rfl) | apply DpL.cons (Dp.agg (n := 96000) ?_ rfl)) rfl) (deep_ok c _ _ (slP_is _ _) (by omega)) (by first | (intro p hp; rw [hp]; rfl) | (rintro p ⟨r, rfl, _⟩; rfl)) (fun p54 hp => ?_)
          obtain rfl := hp
          refine Rs.binB rfl rfl rfl rfl rfl rfl ?_
          refine Rs.nil ?_
          refine Ps.thn ?_
          refine Ps.if rfl (fun hc => ?_) (fun hc => ?_)
          · try replace hc := dc hc
            refine Ps.regionD ?_
            first | refine Rs.fieldAddrD (off' := 0) rfl rfl rfl rfl ?_ | refine Rs.fieldAddrP (off' := 0) rfl rfl rfl rfl ?_
            first | refine Rs.loadR rfl rfl rfl rfl ?_ | refine Rs.loadP 0 rfl rfl rfl rfl rfl ?_ | refine Rs.loadP 1 rfl rfl rfl rfl rfl ?_ | refine Rs.loadP 2 rfl rfl rfl rfl rfl ?_ | refine Rs.loadP 3 rfl rfl rfl rfl rfl ?_
            first | refine Rs.fieldAddrD (off' := 2) rfl rfl rfl rfl ?_ | refine Rs.fieldAddrP (off' := 2) rfl rfl rfl rfl ?_
            first | refine Rs.loadR rfl rfl rfl rfl ?_ | refine Rs.loadP 0 rfl rfl rfl rfl rfl ?_ | refine Rs.loadP 1 rfl rfl rfl rfl rfl ?_ | refine Rs.loadP 2 rfl rfl rfl rfl rfl ?_ | refine Rs.loadP 3 rfl rfl rfl rfl rfl ?_
            first | refine Rs.fieldAddrD (off' := 3) rfl rfl rfl rfl ?_ | refine Rs.fieldAddrP (off' := 3) rfl rfl rfl rfl ?_
            first | refine Rs.store0 (l' := [.agg [_, _, _, _]]) rfl rfl rfl (by first | rfl | exact storeB_ag rfl rfl rfl (by simp [scalars, sc_int, sc_str, sc_bool, sc_nil, sc_dsl, sc_own, sc_g, sc_f, *]) | exact storeB_fld rfl (by first | assumption | exact cl_g | exact cl_f) (by first | assumption | exact sc_g | exact sc_f) rfl) ?_ | refine Rs.store1 (l' := [.agg [_, _, _, _]]) rfl rfl rfl (by first | rfl | exact storeB_ag rfl rfl rfl (by simp [scalars, sc_int, sc_str, sc_bool, sc_nil, sc_dsl, sc_own, sc_g, sc_f, *]) | exact storeB_fld rfl (by first | assumption | exact cl_g | exact cl_f) (by first | assumption | exact sc_g | exact sc_f) rfl) ?_ | refine Rs.store2 (l' := [.agg [_, _, _, _]]) rfl rfl rfl (by first | rfl | exact storeB_ag rfl rfl rfl (by simp [scalars, sc_int, sc_str, sc_bool, sc_nil, sc_dsl, sc_own, sc_g, sc_f, *]) | exact storeB_fld rfl (by first | assumption | exact cl_g | exact cl_f) (by first | assumption | exact sc_g | exact sc_f) rfl) ?_ | refine Rs.store3 (l' := [.agg [_, _, _, _]]) rfl rfl rfl (by first | rfl | exact storeB_ag rfl rfl rfl (by simp [scalars, sc_int, sc_str, sc_bool, sc_nil, sc_dsl, sc_own, sc_g, sc_f, *]) | exact storeB_fld rfl (by first | assumption | exact cl_g | exact cl_f) (by first | assumption | exact sc_g | exact sc_f) rfl) ?_
            first | refine Rs.fieldAddrD (off' := 2) rfl rfl rfl rfl ?_ | refine Rs.fieldAddrP (off' := 2) rfl rfl rfl rfl ?_
            first | refine Rs.store0 (l' := [.agg [_, _, _, _]]) rfl rfl rfl (by first | rfl | exact storeB_ag rfl rfl rfl (by simp [scalars, sc_int, sc_str, sc_bool, sc_nil, sc_dsl, sc_own, sc_g, sc_f, *]) | exact storeB_fld rfl (by first | assumption | exact cl_g | exact cl_f) (by first | assumption | exact sc_g | exact sc_f) rfl) ?_ | refine Rs.store1 (l' := [.agg [_, _, _, _]]) rfl rfl rfl (by first | rfl | exact storeB_ag rfl rfl rfl (by simp [scalars, sc_int, sc_str, sc_bool, sc_nil, sc_dsl, sc_own, sc_g, sc_f, *]) | exact storeB_fld rfl (by first | assumption | exact cl_g | exact cl_f) (by first | assumption | exact sc_g | exact sc_f) rfl) ?_ | refine Rs.store2 (l' := [.agg [_, _, _, _]]) rfl rfl rfl (by first | rfl | exact storeB_ag rfl rfl rfl (by simp [scalars, sc_int, sc_str, sc_bool, sc_nil, sc_dsl, sc_own, sc_g, sc_f, *]) | exact storeB_fld rfl (by first | assumption | exact cl_g | exact cl_f) (by first | assumption | exact sc_g | exact sc_f) rfl) ?_ | refine Rs.store3 (l' := [.agg [_, _, _, _]]) rfl rfl rfl (by first | rfl | exact storeB_ag rfl rfl rfl (by simp [scalars, sc_int, sc_str, sc_bool, sc_nil, sc_dsl, sc_own, sc_g, sc_f, *]) | exact storeB_fld rfl (by first | assumption | exact cl_g | exact cl_f) (by first | assumption | exact sc_g | exact sc_f) rfl) ?_
            refine Rs.nilD [(1, 5), (3, 5), (1, 7), (3, 7)] rfl (fun H hH => ⟨⟨_, _, _, _, rfl, rfl, rfl, rfl, (by show (!Nat.beq _ _) = true; rw [hH.ne (j := 0) (k := 1) rfl rfl (by decide)]; rfl)⟩, ⟨_, _, _, _, rfl, rfl, rfl, rfl, (by show (!Nat.beq _ _) = true; rw [hH.ne (j := 0) (k := 1) rfl rfl (by decide)]; rfl)⟩, ⟨_, _, _, _, rfl, rfl, rfl, rfl, (by show (!Nat.beq _ _) = true; rw [hH.ne (j := 0) (k := 1) rfl rfl (by decide)]; rfl)⟩, ⟨_, _, _, _, rfl, rfl, rfl, rfl, (by show (!Nat.beq _ _) = true; rw [hH.ne (j := 0) (k := 1) rfl rfl (by decide)]; rfl)⟩, trivial⟩) ?_
            refine Ps.thn ?_
            refine Ps.region rfl ?_
            refine Rs.move rfl rfl ?_
            first | refine Rs.loadR (p := .agg [_, _, _, _]) rfl rfl rfl rfl ?_ | refine Rs.loadP (p := .agg [_, _, _, _]) 0 rfl rfl rfl rfl rfl ?_ | refine Rs.loadP (p := .agg [_, _, _, _]) 1 rfl rfl rfl rfl rfl ?_ | refine Rs.loadP (p := .agg [_, _, _, _]) 2 rfl rfl rfl rfl rfl ?_ | refine Rs.loadP (p := .agg [_, _, _, _]) 3 rfl rfl rfl rfl rfl ?_
            refine Rs.buildSlice (l := [_]) rfl rfl rfl rfl (by first | rfl | simp [deepL, deepB, *]) ?_
            first | refine Rs.append0 4 32 rfl rfl ⟨_, rfl⟩ rfl rfl rfl rfl rfl rfl rfl rfl rfl rfl (by assumption) rfl (by first | rfl | simp [scalarsE, scalars, PV.cells, sc_int, sc_str, sc_bool, sc_nil, sc_dsl, *]) (by simp; omega) (fun a65 ha65 => ?_) | refine Rs.append1 4 32 rfl rfl ⟨_, rfl⟩ rfl rfl rfl rfl rfl rfl rfl rfl rfl rfl (by assumption) rfl (by first | rfl | simp [scalarsE, scalars, PV.cells, sc_int, sc_str, sc_bool, sc_nil, sc_dsl, *]) (by simp; omega) (fun a65 ha65 => ?_) | refine Rs.append2 4 32 rfl rfl ⟨_, rfl⟩ rfl rfl rfl rfl rfl rfl rfl rfl rfl rfl (by assumption) rfl (by first | rfl | simp [scalarsE, scalars, PV.cells, sc_int, sc_str, sc_bool, sc_nil, sc_dsl, *]) (by simp; omega) (fun a65 ha65 => ?_) | refine Rs.append3 4 32 rfl rfl ⟨_, rfl⟩ rfl rfl rfl rfl rfl rfl rfl rfl rfl rfl (by assumption) rfl (by first | rfl | simp [scalarsE, scalars, PV.cells, sc_int, sc_str, sc_bool, sc_nil, sc_dsl, *]) (by simp; omega) (fun a65 ha65 => ?_)
            refine Rs.assign rfl rfl ?_
            refine Rs.nil ?_
            refine Ps.blk ?_
            refine Ps.thn ?_
            refine Ps.region rfl ?_
            refine Rs.add rfl rfl rfl (by first | exact W_i64s (by omega) | exact W_i64 (by omega) (by omega) | rfl) ?_
            refine Rs.move rfl rfl ?_
            refine Rs.nil ?_
            -- leaf 2 (round1)
            have h4 : x.code % 4 ≤ 3 ∧ 0 ≤ x.code % 4 := by omega
            have hgt : ∀ a ∈ c, a.code < code + (1 + x.code % 4) := fun a h => by have := hca a h; omega
            have fin : ∀ (z : Acc), z.code = code + (1 + x.code % 4) → Made (c ++ [z]) → j + 1 ≤ l.length ∧ j + 1 ≤ 40 ∧ (c ++ [z]).length = j + 1 ∧ Made (c ++ [z]) ∧ 0 ≤ z.code ∧ z.code ≤ 4 * ((j + 1 : Nat) : Int) ∧ (∀ a ∈ c ++ [z], a.code ≤ z.code) := by
              intro z hz M
              refine ⟨by omega, by omega, by simp [hcl], M, by omega, by omega, fun a h => ?_⟩
              rcases List.mem_append.1 h with h | h
              · have := hgt a h; omega
              · rw [List.mem_singleton.1 h]; exact Int.le_refl _
            first
              | (have M' : Made (c ++ [(⟨code + (1 + x.code % 4), nameB x.name, y.kind, y.code⟩ : Acc)]) := hM.snoc (by omega) (by show 1 ≤ code + (1 + x.code % 4); omega) hgt (.inr ⟨y, hym, rfl, rfl, by omega⟩) (nameB_ok _) (hM.kinds y hym) (by show code + (1 + x.code % 4) ≤ 160; omega)
                 rw [show List.map accP c ++ [PV.agg [u32P (code + (1 + x.code % 4)), strP (nameB x.name), u8P y.kind, u32P y.code]] = List.map accP (c ++ [(⟨code + (1 + x.code % 4), nameB x.name, y.kind, y.code⟩ : Acc)]) by rw [List.map_append]; rfl] at ha65 ⊢
                 obtain ⟨f1, f2, f3, f4, f5, f6, f7⟩ := fin ⟨code + (1 + x.code % 4), nameB x.name, y.kind, y.code⟩ rfl M'
                 exact Ps.round (j + 1, c ++ [⟨code + (1 + x.code % 4), nameB x.name, y.kind, y.code⟩], code + (1 + x.code % 4), a65) ⟨f1, f2, f3, f4, f5, f6, f7, ha65⟩ (by show l.length - (j + 1) < l.length - j; omega) ⟨rfl, rfl, rfl, trivial⟩ (by repeat' first | exact HasL.nil | refine HasL.cons rfl ?_) (by repeat' first | exact List.Sublist.refl _ | exact List.nil_sublist _ | exact List.sublist_append_left _ _ | refine List.Sublist.cons_cons _ ?_ | refine List.Sublist.cons _ ?_))
              | (have M' : Made (c ++ [(⟨code + (1 + x.code % 4), nameB x.name, x.kind % 5, 0⟩ : Acc)]) := hM.snoc (by omega) (by show 1 ≤ code + (1 + x.code % 4); omega) hgt (.inl rfl) (nameB_ok _) (by show 0 ≤ x.kind % 5 ∧ x.kind % 5 ≤ 4; omega) (by show code + (1 + x.code % 4) ≤ 160; omega)
                 rw [show List.map accP c ++ [PV.agg [u32P (code + (1 + x.code % 4)), strP (nameB x.name), u8P (x.kind % 5), u32P 0]] = List.map accP (c ++ [(⟨code + (1 + x.code % 4), nameB x.name, x.kind % 5, 0⟩ : Acc)]) by rw [List.map_append]; rfl] at ha65 ⊢
                 obtain ⟨f1, f2, f3, f4, f5, f6, f7⟩ := fin ⟨code + (1 + x.code % 4), nameB x.name, x.kind % 5, 0⟩ rfl M'
                 exact Ps.round (j + 1, c ++ [⟨code + (1 + x.code % 4), nameB x.name, x.kind % 5, 0⟩], code + (1 + x.code % 4), a65) ⟨f1, f2, f3, f4, f5, f6, f7, ha65⟩ (by show l.length - (j + 1) < l.length - j; omega) ⟨rfl, rfl, rfl, trivial⟩ (by repeat' first | exact HasL.nil | refine HasL.cons rfl ?_) (by repeat' first | exact List.Sublist.refl _ | exact List.nil_sublist _ | exact List.sublist_append_left _ _ | refine List.Sublist.cons_cons _ ?_ | refine List.Sublist.cons _ ?_))
          · try replace hc := dc hc
            refine Ps.skip ?_
            refine Ps.thn ?_
            refine Ps.region rfl ?_
            refine Rs.move rfl rfl ?_
            first | refine Rs.loadR (p := .agg [_, _, _, _]) rfl rfl rfl rfl ?_ | refine Rs.loadP (p := .agg [_, _, _, _]) 0 rfl rfl rfl rfl rfl ?_ | refine Rs.loadP (p := .agg [_, _, _, _]) 1 rfl rfl rfl rfl rfl ?_ | refine Rs.loadP (p := .agg [_, _, _, _]) 2 rfl rfl rfl rfl rfl ?_ | refine Rs.loadP (p := .agg [_, _, _, _]) 3 rfl rfl rfl rfl rfl ?_
            refine Rs.buildSlice (l := [_]) rfl rfl rfl rfl (by first | rfl | simp [deepL, deepB, *]) ?_
            first | refine Rs.append0 4 32 rfl rfl ⟨_, rfl⟩ rfl rfl rfl rfl rfl rfl rfl rfl rfl rfl (by assumption) rfl (by first | rfl | simp [scalarsE, scalars, PV.cells, sc_int, sc_str, sc_bool, sc_nil, sc_dsl, *]) (by simp; omega) (fun a65 ha65 => ?_) | refine Rs.append1 4 32 rfl rfl ⟨_, rfl⟩ rfl rfl rfl rfl rfl rfl rfl rfl rfl rfl (by assumption) rfl (by first | rfl | simp [scalarsE, scalars, PV.cells, sc_int, sc_str, sc_bool, sc_nil, sc_dsl, *]) (by simp; omega) (fun a65 ha65 => ?_) | refine Rs.append2 4 32 rfl rfl ⟨_, rfl⟩ rfl rfl rfl rfl rfl rfl rfl rfl rfl rfl (by assumption) rfl (by first | rfl | simp [scalarsE, scalars, PV.cells, sc_int, sc_str, sc_bool, sc_nil, sc_dsl, *]) (by simp; omega) (fun a65 ha65 => ?_) | refine Rs.append3 4 32 rfl rfl ⟨_, rfl⟩ rfl rfl rfl rfl rfl rfl rfl rfl rfl rfl (by assumption) rfl (by first | rfl | simp [scalarsE, scalars, PV.cells, sc_int, sc_str, sc_bool, sc_nil, sc_dsl, *]) (by simp; omega) (fun a65 ha65 => ?_)
            refine Rs.assign rfl rfl ?_
            refine Rs.nil ?_
            refine Ps.blk ?_
            refine Ps.thn ?_
            refine Ps.region rfl ?_
            refine Rs.add rfl rfl rfl (by first | exact W_i64s (by omega) | exact W_i64 (by omega) (by omega) | rfl) ?_
            refine Rs.move rfl rfl ?_
            refine Rs.nil ?_
            -- leaf 3 (round1)
            have h4 : x.code % 4 ≤ 3 ∧ 0 ≤ x.code % 4 := by omega
            have hgt : ∀ a ∈ c, a.code < code + (1 + x.code % 4) := fun a h => by have := hca a h; omega
            have fin : ∀ (z : Acc), z.code = code + (1 + x.code % 4) → Made (c ++ [z]) → j + 1 ≤ l.length ∧ j + 1 ≤ 40 ∧ (c ++ [z]).length = j + 1 ∧ Made (c ++ [z]) ∧ 0 ≤ z.code ∧ z.code ≤ 4 * ((j + 1 : Nat) : Int) ∧ (∀ a ∈ c ++ [z], a.code ≤ z.code) := by
              intro z hz M
              refine ⟨by omega, by omega, by simp [hcl], M, by omega, by omega, fun a h => ?_⟩
              rcases List.mem_append.1 h with h | h
              · have := hgt a h; omega
              · rw [List.mem_singleton.1 h]; exact Int.le_refl _
            first
              | (have M' : Made (c ++ [(⟨code + (1 + x.code % 4), nameB x.name, y.kind, y.code⟩ : Acc)]) := hM.snoc (by omega) (by show 1 ≤ code + (1 + x.code % 4); omega) hgt (.inr ⟨y, hym, rfl, rfl, by omega⟩) (nameB_ok _) (hM.kinds y hym) (by show code + (1 + x.code % 4) ≤ 160; omega)
                 rw [show List.map accP c ++ [PV.agg [u32P (code + (1 + x.code % 4)), strP (nameB x.name), u8P y.kind, u32P y.code]] = List.map accP (c ++ [(⟨code + (1 + x.code % 4), nameB x.name, y.kind, y.code⟩ : Acc)]) by rw [List.map_append]; rfl] at ha65 ⊢
                 obtain ⟨f1, f2, f3, f4, f5, f6, f7⟩ := fin ⟨code + (1 + x.code % 4), nameB x.name, y.kind, y.code⟩ rfl M'
                 exact Ps.round (j + 1, c ++ [⟨code + (1 + x.code % 4), nameB x.name, y.kind, y.code⟩], code + (1 + x.code % 4), a65) ⟨f1, f2, f3, f4, f5, f6, f7, ha65⟩ (by show l.length - (j + 1) < l.length - j; omega) ⟨rfl, rfl, rfl, trivial⟩ (by repeat' first | exact HasL.nil | refine HasL.cons rfl ?_) (by repeat' first | exact List.Sublist.refl _ | exact List.nil_sublist _ | exact List.sublist_append_left _ _ | refine List.Sublist.cons_cons _ ?_ | refine List.Sublist.cons _ ?_))
              | (have M' : Made (c ++ [(⟨code + (1 + x.code % 4), nameB x.name, x.kind % 5, 0⟩ : Acc)]) := hM.snoc (by omega) (by show 1 ≤ code + (1 + x.code % 4); omega) hgt (.inl rfl) (nameB_ok _) (by show 0 ≤ x.kind % 5 ∧ x.kind % 5 ≤ 4; omega) (by show code + (1 + x.code % 4) ≤ 160; omega)
                 rw [show List.map accP c ++ [PV.agg [u32P (code + (1 + x.code % 4)), strP (nameB x.name), u8P (x.kind % 5), u32P 0]] = List.map accP (c ++ [(⟨code + (1 + x.code % 4), nameB x.name, x.kind % 5, 0⟩ : Acc)]) by rw [List.map_append]; rfl] at ha65 ⊢
                 obtain ⟨f1, f2, f3, f4, f5, f6, f7⟩ := fin ⟨code + (1 + x.code % 4), nameB x.name, x.kind % 5, 0⟩ rfl M'
                 exact Ps.round (j + 1, c ++ [⟨code + (1 + x.code % 4), nameB x.name, x.kind % 5, 0⟩], code + (1 + x.code % 4), a65) ⟨f1, f2, f3, f4, f5, f6, f7, ha65⟩ (by show l.length - (j + 1) < l.length - j; omega) ⟨rfl, rfl, rfl, trivial⟩ (by repeat' first | exact HasL.nil | refine HasL.cons rfl ?_) (by repeat' first | exact List.Sublist.refl _ | exact List.nil_sublist _ | exact List.sublist_append_left _ _ | refine List.Sublist.cons_cons _ ?_ | refine List.Sublist.cons _ ?_))
        · try replace hc := dc hc
          refine Ps.skip ?_
          refine Ps.thn ?_
          refine Ps.region rfl ?_
          refine Rs.move rfl rfl ?_
          first | refine Rs.loadR (p := .agg [_, _, _, _]) rfl rfl rfl rfl ?_ | refine Rs.loadP (p := .agg [_, _, _, _]) 0 rfl rfl rfl rfl rfl ?_ | refine Rs.loadP (p := .agg [_, _, _, _]) 1 rfl rfl rfl rfl rfl ?_ | refine Rs.loadP (p := .agg [_, _, _, _]) 2 rfl rfl rfl rfl rfl ?_ | refine Rs.loadP (p := .agg [_, _, _, _]) 3 rfl rfl rfl rfl rfl ?_
          refine Rs.buildSlice (l := [_]) rfl rfl rfl rfl (by first | rfl | simp [deepL, deepB, *]) ?_
          first | refine Rs.append0 4 32 rfl rfl ⟨_, rfl⟩ rfl rfl rfl rfl rfl rfl rfl rfl rfl rfl (by assumption) rfl (by first | rfl | simp [scalarsE, scalars, PV.cells, sc_int, sc_str, sc_bool, sc_nil, sc_dsl, *]) (by simp; omega) (fun a65 ha65 => ?_) | refine Rs.append1 4 32 rfl rfl ⟨_, rfl⟩ rfl rfl rfl rfl rfl rfl rfl rfl rfl rfl (by assumption) rfl (by first | rfl | simp [scalarsE, scalars, PV.cells, sc_int, sc_str, sc_bool, sc_nil, sc_dsl, *]) (by simp; omega) (fun a65 ha65 => ?_) | refine Rs.append2 4 32 rfl rfl ⟨_, rfl⟩ rfl rfl rfl rfl rfl rfl rfl rfl rfl rfl (by assumption) rfl (by first | rfl | simp [scalarsE, scalars, PV.cells, sc_int, sc_str, sc_bool, sc_nil, sc_dsl, *]) (by simp; omega) (fun a65 ha65 => ?_) | refine Rs.append3 4 32 rfl rfl ⟨_, rfl⟩ rfl rfl rfl rfl rfl rfl rfl rfl rfl rfl (by assumption) rfl (by first | rfl | simp [scalarsE, scalars, PV.cells, sc_int, sc_str, sc_bool, sc_nil, sc_dsl, *]) (by simp; omega) (fun a65 ha65 => ?_)
          refine Rs.assign rfl rfl ?_
          refine Rs.nil ?_
          refine Ps.blk ?_
          refine Ps.thn ?_
          refine Ps.region rfl ?_
          refine Rs.add rfl rfl rfl (by first | exact W_i64s (by omega) | exact W_i64 (by omega) (by omega) | rfl) ?_
          refine Rs.move rfl rfl ?_
          refine Rs.nil ?_
          -- leaf 4 (round1)
          have h4 : x.code % 4 ≤ 3 ∧ 0 ≤ x.code % 4 := by omega
          have hgt : ∀ a ∈ c, a.code < code + (1 + x.code % 4) := fun a h => by have := hca a h; omega
          have fin : ∀ (z : Acc), z.code = code + (1 + x.code % 4) → Made (c ++ [z]) → j + 1 ≤ l.length ∧ j + 1 ≤ 40 ∧ (c ++ [z]).length = j + 1 ∧ Made (c ++ [z]) ∧ 0 ≤ z.code ∧ z.code ≤ 4 * ((j + 1 : Nat) : Int) ∧ (∀ a ∈ c ++ [z], a.code ≤ z.code) := by
            intro z hz M
            refine ⟨by omega, by omega, by simp [hcl], M, by omega, by omega, fun a h => ?_⟩
            rcases List.mem_append.1 h with h | h
            · have := hgt a h; omega
            · rw [List.mem_singleton.1 h]; exact Int.le_refl _
          first
            | (have M' : Made (c ++ [(⟨code + (1 + x.code % 4), nameB x.name, y.kind, y.code⟩ : Acc)]) := hM.snoc (by omega) (by show 1 ≤ code + (1 + x.code % 4); omega) hgt (.inr ⟨y, hym, rfl, rfl, by omega⟩) (nameB_ok _) (hM.kinds y hym) (by show code + (1 + x.code % 4) ≤ 160; omega)
               rw [show List.map accP c ++ [PV.agg [u32P (code + (1 + x.code % 4)), strP (nameB x.name), u8P y.kind, u32P y.code]] = List.map accP (c ++ [(⟨code + (1 + x.code % 4), nameB x.name, y.kind, y.code⟩ : Acc)]) by rw [List.map_append]; rfl] at ha65 ⊢
               obtain ⟨f1, f2, f3, f4, f5, f6, f7⟩ := fin ⟨code + (1 + x.code % 4), nameB x.name, y.kind, y.code⟩ rfl M'
               exact Ps.round (j + 1, c ++ [⟨code + (1 + x.code % 4), nameB x.name, y.kind, y.code⟩], code + (1 + x.code % 4), a65) ⟨f1, f2, f3, f4, f5, f6, f7, ha65⟩ (by show l.length - (j + 1) < l.length - j; omega) ⟨rfl, rfl, rfl, trivial⟩ (by repeat' first | exact HasL.nil | refine HasL.cons rfl ?_) (by repeat' first | exact List.Sublist.refl _ | exact List.nil_sublist _ | exact List.sublist_append_left _ _ | refine List.Sublist.cons_cons _ ?_ | refine List.Sublist.cons _ ?_))
            | (have M' : Made (c ++ [(⟨code + (1 + x.code % 4), nameB x.name, x.kind % 5, 0⟩ : Acc)]) := hM.snoc (by omega) (by show 1 ≤ code + (1 + x.code % 4); omega) hgt (.inl rfl) (nameB_ok _) (by show 0 ≤ x.kind % 5 ∧ x.kind % 5 ≤ 4; omega) (by show code + (1 + x.code % 4) ≤ 160; omega)
               rw [show List.map accP c ++ [PV.agg [u32P (code + (1 + x.code % 4)), strP (nameB x.name), u8P (x.kind % 5), u32P 0]] = List.map accP (c ++ [(⟨code + (1 + x.code % 4), nameB x.name, x.kind % 5, 0⟩ : Acc)]) by rw [List.map_append]; rfl] at ha65 ⊢
               obtain ⟨f1, f2, f3, f4, f5, f6, f7⟩ := fin ⟨code + (1 + x.code % 4), nameB x.name, x.kind % 5, 0⟩ rfl M'
               exact Ps.round (j + 1, c ++ [⟨code + (1 + x.code % 4), nameB x.name, x.kind % 5, 0⟩], code + (1 + x.code % 4), a65) ⟨f1, f2, f3, f4, f5, f6, f7, ha65⟩ (by show l.length - (j + 1) < l.length - j; omega) ⟨rfl, rfl, rfl, trivial⟩ (by repeat' first | exact HasL.nil | refine HasL.cons rfl ?_) (by repeat' first | exact List.Sublist.refl _ | exact List.nil_sublist _ | exact List.sublist_append_left _ _ | refine List.Sublist.cons_cons _ ?_ | refine List.Sublist.cons _ ?_))
      · try replace hg := dc hg
        refine Rs.guardF1 rfl rfl rfl ?_
        refine Rs.guardF1 rfl rfl rfl ?_
        refine Rs.guardF1 rfl rfl rfl ?_
        refine Rs.pickF (q := .lit _) rfl rfl rfl rfl ?_
        refine Rs.nil ?_
        refine Ps.thn ?_
        refine Ps.ifF rfl ?_
        refine Ps.skip ?_
        refine Ps.thn ?_
        refine Ps.region rfl ?_
        refine Rs.move rfl rfl ?_
        first | refine Rs.loadR (p := .agg [_, _, _, _]) rfl rfl rfl rfl ?_ | refine Rs.loadP (p := .agg [_, _, _, _]) 0 rfl rfl rfl rfl rfl ?_ | refine Rs.loadP (p := .agg [_, _, _, _]) 1 rfl rfl rfl rfl rfl ?_ | refine Rs.loadP (p := .agg [_, _, _, _]) 2 rfl rfl rfl rfl rfl ?_ | refine Rs.loadP (p := .agg [_, _, _, _]) 3 rfl rfl rfl rfl rfl ?_
        refine Rs.buildSlice (l := [_]) rfl rfl rfl rfl (by first | rfl | simp [deepL, deepB, *]) ?_
        first | refine Rs.append0 4 32 rfl rfl ⟨_, rfl⟩ rfl rfl rfl rfl rfl rfl rfl rfl rfl rfl (by assumption) rfl (by first | rfl | simp [scalarsE, scalars, PV.cells, sc_int, sc_str, sc_bool, sc_nil, sc_dsl, *]) (by simp; omega) (fun a65 ha65 => ?_) | refine Rs.append1 4 32 rfl rfl ⟨_, rfl⟩ rfl rfl rfl rfl rfl rfl rfl rfl rfl rfl (by assumption) rfl (by first | rfl | simp [scalarsE, scalars, PV.cells, sc_int, sc_str, sc_bool, sc_nil, sc_dsl, *]) (by simp; omega) (fun a65 ha65 => ?_) | refine Rs.append2 4 32 rfl rfl ⟨_, rfl⟩ rfl rfl rfl rfl rfl rfl rfl rfl rfl rfl (by assumption) rfl (by first | rfl | simp [scalarsE, scalars, PV.cells, sc_int, sc_str, sc_bool, sc_nil, sc_dsl, *]) (by simp; omega) (fun a65 ha65 => ?_) | refine Rs.append3 4 32 rfl rfl ⟨_, rfl⟩ rfl rfl rfl rfl rfl rfl rfl rfl rfl rfl (by assumption) rfl (by first | rfl | simp [scalarsE, scalars, PV.cells, sc_int, sc_str, sc_bool, sc_nil, sc_dsl, *]) (by simp; omega) (fun a65 ha65 => ?_)
        refine Rs.assign rfl rfl ?_
        refine Rs.nil ?_
        refine Ps.blk ?_
        refine Ps.thn ?_
        refine Ps.region rfl ?_
        refine Rs.add rfl rfl rfl (by first | exact W_i64s (by omega) | exact W_i64 (by omega) (by omega) | rfl) ?_
        refine Rs.move rfl rfl ?_
        refine Rs.nil ?_
        -- leaf 5 (round1)
        have h4 : x.code % 4 ≤ 3 ∧ 0 ≤ x.code % 4 := by omega
        have hgt : ∀ a ∈ c, a.code < code + (1 + x.code % 4) := fun a h => by have := hca a h; omega
        have fin : ∀ (z : Acc), z.code = code + (1 + x.code % 4) → Made (c ++ [z]) → j + 1 ≤ l.length ∧ j + 1 ≤ 40 ∧ (c ++ [z]).length = j + 1 ∧ Made (c ++ [z]) ∧ 0 ≤ z.code ∧ z.code ≤ 4 * ((j + 1 : Nat) : Int) ∧ (∀ a ∈ c ++ [z], a.code ≤ z.code) := by
          intro z hz M
          refine ⟨by omega, by omega, by simp [hcl], M, by omega, by omega, fun a h => ?_⟩
          rcases List.mem_append.1 h with h | h
          · have := hgt a h; omega
          · rw [List.mem_singleton.1 h]; exact Int.le_refl _
        first
          | (have M' : Made (c ++ [(⟨code + (1 + x.code % 4), nameB x.name, y.kind, y.code⟩ : Acc)]) := hM.snoc (by omega) (by show 1 ≤ code + (1 + x.code % 4); omega) hgt (.inr ⟨y, hym, rfl, rfl, by omega⟩) (nameB_ok _) (hM.kinds y hym) (by show code + (1 + x.code % 4) ≤ 160; omega)
             rw [show List.map accP c ++ [PV.agg [u32P (code + (1 + x.code % 4)), strP (nameB x.name), u8P y.kind, u32P y.code]] = List.map accP (c ++ [(⟨code + (1 + x.code % 4), nameB x.name, y.kind, y.code⟩ : Acc)]) by rw [List.map_append]; rfl] at ha65 ⊢
             obtain ⟨f1, f2, f3, f4, f5, f6, f7⟩ := fin ⟨code + (1 + x.code % 4), nameB x.name, y.kind, y.code⟩ rfl M'
             exact Ps.round (j + 1, c ++ [⟨code + (1 + x.code % 4), nameB x.name, y.kind, y.code⟩], code + (1 + x.code % 4), a65) ⟨f1, f2, f3, f4, f5, f6, f7, ha65⟩ (by show l.length - (j + 1) < l.length - j; omega) ⟨rfl, rfl, rfl, trivial⟩ (by repeat' first | exact HasL.nil | refine HasL.cons rfl ?_) (by repeat' first | exact List.Sublist.refl _ | exact List.nil_sublist _ | exact List.sublist_append_left _ _ | refine List.Sublist.cons_cons _ ?_ | refine List.Sublist.cons _ ?_))
          | (have M' : Made (c ++ [(⟨code + (1 + x.code % 4), nameB x.name, x.kind % 5, 0⟩ : Acc)]) := hM.snoc (by omega) (by show 1 ≤ code + (1 + x.code % 4); omega) hgt (.inl rfl) (nameB_ok _) (by show 0 ≤ x.kind % 5 ∧ x.kind % 5 ≤ 4; omega) (by show code + (1 + x.code % 4) ≤ 160; omega)
             rw [show List.map accP c ++ [PV.agg [u32P (code + (1 + x.code % 4)), strP (nameB x.name), u8P (x.kind % 5), u32P 0]] = List.map accP (c ++ [(⟨code + (1 + x.code % 4), nameB x.name, x.kind % 5, 0⟩ : Acc)]) by rw [List.map_append]; rfl] at ha65 ⊢
             obtain ⟨f1, f2, f3, f4, f5, f6, f7⟩ := fin ⟨code + (1 + x.code % 4), nameB x.name, x.kind % 5, 0⟩ rfl M'
             exact Ps.round (j + 1, c ++ [⟨code + (1 + x.code % 4), nameB x.name, x.kind % 5, 0⟩], code + (1 + x.code % 4), a65) ⟨f1, f2, f3, f4, f5, f6, f7, ha65⟩ (by show l.length - (j + 1) < l.length - j; omega) ⟨rfl, rfl, rfl, trivial⟩ (by repeat' first | exact HasL.nil | refine HasL.cons rfl ?_) (by repeat' first | exact List.Sublist.refl _ | exact List.nil_sublist _ | exact List.sublist_append_left _ _ | refine List.Sublist.cons_cons _ ?_ | refine List.Sublist.cons _ ?_))
  · try replace hc := dc hc
    refine Ps.exit ?_
    refine Ps.thn_exit ?_
    refine Ps.rnd_exit ?_
    refine Ps.blk_here ?_
    refine Ps.thn ?_
    refine Ps.seq ?_
    refine Ps.region rfl ?_
    refine Rs.move rfl rfl ?_
    refine Rs.assign rfl rfl ?_
    refine Rs.nil ?_
    refine Ps.thn ?_
    refine Ps.ret ?_
    -- leaf 6 (ret)
    refine Ps.finG (a := a) rfl (.tmp rfl .nil) ha (by repeat' first | exact List.Sublist.refl _ | exact List.nil_sublist _ | exact List.sublist_append_left _ _ | refine List.Sublist.cons_cons _ ?_ | refine List.Sublist.cons _ ?_) (by intro q hq; obtain ⟨z, _, rfl⟩ := List.mem_map.1 hq; rfl) (by simp; omega) ⟨c, hM, (by first | omega | (simp at hc; omega) | (simp at hg; omega)), rfl⟩
end Go.Proofs.YtddaogebacigbaaGreatDoor.RV.T
end
section
open Go Go.Proofs.YtddaogebacigbaaGreatDoor.RV Go.Proofs.YtddaogebacigbaaGreatDoor.XA.Awk Go.Proofs.YtddaogebacigbaaGreatDoor.RV.ChartMath Go.Proofs
namespace Go.Proofs.YtddaogebacigbaaGreatDoor.RV.T
set_option maxRecDepth 100000
set_option linter.unusedVariables false
set_option linter.unusedSimpArgs false
variable {spc : Sp}
theorem isnan16 (x : Int) : Fn (cfg spc) 159 [u16P x] (· = boolP false) := by
  refine Fn.go Tryz.func159 (L := [(0, _)]) rfl rfl rfl (by first | rfl | (simp [deepL, deepB, *]; done) | (simp [deepL, deepB, *]; rfl)) rfl ?_
  refine Ps.seq ?_
  refine Ps.region rfl ?_
  refine Rs.assign (p := .lit _) rfl rfl ?_
  refine Rs.nil ?_
  refine Ps.thn ?_
  refine Ps.seq ?_
  refine Ps.region rfl ?_
  refine Rs.move rfl rfl ?_
  refine Rs.move rfl rfl ?_
  refine Rs.binB rfl rfl rfl rfl rfl rfl ?_
  refine Rs.assign rfl rfl ?_
  refine Rs.nil ?_
  refine Ps.thn ?_
  refine Ps.ret ?_
  -- leaf 1 (ret)
  refine Ps.finP (l := [_]) rfl (by refine ResR.tmp rfl ?_; exact ResR.nil) (by first | rfl | simp [plainP, plainC, cp_lit, cp_dsl, *]) rfl ?_
  simp [one]
theorem less16 (x y : Int) : Fn (cfg spc) 132 [u16P x, u16P y] (· = boolP (decide (x < y))) := by
  refine Fn.go Tryz.func132 (L := [(0, _), (1, _)]) rfl rfl rfl (by first | rfl | (simp [deepL, deepB, *]; done) | (simp [deepL, deepB, *]; rfl)) rfl ?_
  refine Ps.seq ?_
  refine Ps.region rfl ?_
  refine Rs.assign (p := .lit _) rfl rfl ?_
  refine Rs.nil ?_
  refine Ps.thn ?_
  refine Ps.seq ?_
  refine Ps.region rfl ?_
  refine Rs.move rfl rfl ?_
  refine Rs.call0 rfl rfl rfl (isnan16 _) (fun p6 hp => ?_)
  obtain rfl := hp
  refine Rs.move rfl rfl ?_
  refine Rs.guard1 (w' := false) rfl rfl rfl (fun hg => ?_) (fun hg => ?_)
  · try replace hg := dc hg
    refine Rs.move rfl rfl ?_
    refine Rs.guardT rfl ?_
    refine Rs.call0 rfl rfl rfl (isnan16 _) (fun p9 hp => ?_)
    obtain rfl := hp
    refine Rs.guardT rfl ?_
    refine Rs.not rfl rfl ?_
    refine Rs.pickT (q := .lit _) rfl rfl rfl rfl ?_
    refine Rs.move rfl rfl ?_
    refine Rs.guard1 (w' := true) rfl rfl rfl (fun hg => ?_) (fun hg => ?_)
    · try replace hg := dc hg
      refine Rs.move rfl rfl ?_
      refine Rs.guardT rfl ?_
      refine Rs.move rfl rfl ?_
      refine Rs.guardT rfl ?_
      refine Rs.binB rfl rfl rfl rfl rfl rfl ?_
      refine Rs.pickF (p := .lit _) rfl rfl rfl rfl ?_
      refine Rs.assign rfl rfl ?_
      refine Rs.nil ?_
      refine Ps.thn ?_
      refine Ps.ret ?_
      -- leaf 1 (ret)
      refine Ps.finP (l := [_]) rfl (by refine ResR.tmp rfl ?_; exact ResR.nil) (by first | rfl | simp [plainP, plainC, cp_lit, cp_dsl, *]) rfl ?_
      simp_all [one]
    · try replace hg := dc hg
      refine Rs.guardF1 rfl rfl rfl ?_
      refine Rs.guardF1 rfl rfl rfl ?_
      refine Rs.pickT (p := .lit _) rfl rfl rfl rfl ?_
      refine Rs.assign rfl rfl ?_
      refine Rs.nil ?_
      refine Ps.thn ?_
      refine Ps.ret ?_
      -- leaf 2 (ret)
      refine Ps.finP (l := [_]) rfl (by refine ResR.tmp rfl ?_; exact ResR.nil) (by first | rfl | simp [plainP, plainC, cp_lit, cp_dsl, *]) rfl ?_
      simp_all [one]
  · try replace hg := dc hg
    refine Rs.guardF1 rfl rfl rfl ?_
    refine Rs.guardF1 rfl rfl rfl ?_
    refine Rs.pickF (q := .lit _) rfl rfl rfl rfl ?_
    refine Rs.move rfl rfl ?_
    refine Rs.guardT rfl ?_
    refine Rs.move rfl rfl ?_
    refine Rs.guardT rfl ?_
    refine Rs.move rfl rfl ?_
    refine Rs.guardT rfl ?_
    refine Rs.binB rfl rfl rfl rfl rfl rfl ?_
    refine Rs.pickF (p := .lit _) rfl rfl rfl rfl ?_
    refine Rs.assign rfl rfl ?_
    refine Rs.nil ?_
    refine Ps.thn ?_
    refine Ps.ret ?_
    -- leaf 3 (ret)
    refine Ps.finP (l := [_]) rfl (by refine ResR.tmp rfl ?_; exact ResR.nil) (by first | rfl | simp [plainP, plainC, cp_lit, cp_dsl, *]) rfl ?_
    simp_all [one]
def Srt (l : List Int) : Prop := l.Pairwise (· ≤ ·)
theorem srt_ins {A B : List Int} {x : Int} (h : Srt (A ++ B)) (h1 : ∀ a ∈ A, a ≤ x) (h2 : ∀ b ∈ B, x ≤ b) : Srt (A ++ x :: B) := by
  unfold Srt at h ⊢
  rw [List.pairwise_append] at h ⊢
  refine ⟨h.1, List.pairwise_cons.2 ⟨h2, h.2.1⟩, fun a ha b hb => ?_⟩
  rcases List.mem_cons.1 hb with rfl | hb
  · exact h1 a ha
  · exact h.2.2 a ha b hb
theorem srt_last {A : List Int} {y x : Int} (h : Srt (A ++ [y])) (hy : y ≤ x) : ∀ a ∈ A ++ [y], a ≤ x := by
  intro a ha
  rcases List.mem_append.1 ha with ha | ha
  · have := (List.pairwise_append.1 h).2.2 a ha y (by simp); omega
  · rw [List.mem_singleton.1 ha]; exact hy
theorem srt_left {A B : List Int} (h : Srt (A ++ B)) : Srt A := (List.pairwise_append.1 h).1
theorem perm_ins {A B C l : List Int} {x : Int} (h : (A ++ B ++ x :: C).Perm l) : (A ++ x :: B ++ C).Perm l := by
  refine List.Perm.trans ?_ h
  rw [List.append_assoc, List.append_assoc]
  exact List.Perm.append_left A List.perm_middle.symm
theorem insort (l : List Int) (id v : Nat) (M0 : Mem) (hl : l.length < 1000) (h0 : 1 ≤ l.length) : Fm0 (cfg spc) 126 [.own id v 1 0 l.length none, i64P 0, i64P l.length] ((id, v, .blk 1 (l.map u16P) true) :: M0) (fun _ M' => ∃ l', l'.Perm l ∧ Srt l' ∧ M' = (id, v, .blk 1 (l'.map u16P) true) :: M0) := by
  refine Fm0.go Tryz.func126 (L := [(0, _), (1, _), (2, _)]) rfl rfl rfl rfl ?_
  refine Ps.seq ?_
  refine Ps.region rfl ?_
  refine Rs.move rfl rfl ?_
  refine Rs.add rfl rfl rfl (by first | exact W_i64s (by omega) | exact W_i64 (by omega) (by omega) | rfl) ?_
  refine Rs.assign rfl rfl ?_
  refine Rs.nil ?_
  refine Ps.thn ?_
  refine Ps.block ?_
  -- loop 1 writes [6, 7, 10, 11, 12, 13, 14, 15, 16, 17, 18, 19, 20, 21, 22, 23, 24, 25, 26, 27, 28, 29, 30, 31, 32, 33, 34, 35, 36, 37, 38, 39, 40, 41, 42, 43, 44, 45, 46, 47, 48]
  refine Ps.loop (J := List Int × List Int) ⟨fun j => 1 ≤ j.1.length ∧ (j.1 ++ j.2).Perm l ∧ Srt j.1 , fun j => [(6, i64P j.1.length)], fun j => (id, v, .blk 1 ((j.1 ++ j.2).map u16P) true) :: M0, fun j => j.2.length⟩ [6, 7, 10, 11, 12, 13, 14, 15, 16, 17, 18, 19, 20, 21, 22, 23, 24, 25, 26, 27, 28, 29, 30, 31, 32, 33, 34, 35, 36, 37, 38, 39, 40, 41, 42, 43, 44, 45, 46, 47, 48] [(9, _), (8, _), (0, _), (1, _), (2, _)] (l.take 1, l.drop 1) rfl ⟨by show 1 ≤ (l.take 1).length; rw [List.length_take]; omega, by show (l.take 1 ++ l.drop 1).Perm l; rw [List.take_append_drop], by match l with | [] => exact List.Pairwise.nil | x :: _ => exact List.pairwise_singleton _ _⟩ ⟨by show some (PV.lit (.int .i64 ((0 : Int) + 1))) = some (i64P ((l.take 1).length : Int)); rw [show (0 : Int) + 1 = ((l.take 1).length : Int) from (by rw [List.length_take]; omega)], trivial⟩ (by show List.Sublist ((id, v, .blk 1 ((l.take 1 ++ l.drop 1).map u16P) true) :: M0) _; rw [List.take_append_drop]; exact List.Sublist.refl _) (fun j hj => ?_)
  obtain ⟨S, C⟩ := j
  obtain ⟨hS, hP, hSrt⟩ : 1 ≤ S.length ∧ (S ++ C).Perm l ∧ Srt S := hj
  have hlen : S.length + C.length = l.length := by have := hP.length_eq; simpa using this
  dsimp only [List.cons_append, List.nil_append]
  refine Ps.seq ?_
  refine Ps.seq ?_
  refine Ps.region rfl ?_
  refine Rs.move rfl rfl ?_
  refine Rs.move rfl rfl ?_
  refine Rs.binB rfl rfl rfl rfl rfl rfl ?_
  refine Rs.nil ?_
  refine Ps.thn ?_
  refine Ps.if rfl (fun hc => ?_) (fun hc => ?_)
  · try replace hc := dc hc
    refine Ps.skip ?_
    refine Ps.thn ?_
    refine Ps.seq ?_
    refine Ps.block ?_
    refine Ps.seq ?_
    refine Ps.region rfl ?_
    refine Rs.move rfl rfl ?_
    refine Rs.assign rfl rfl ?_
    refine Rs.nil ?_
    refine Ps.thn ?_
    refine Ps.block ?_
    -- loop 2 writes [7, 16, 17, 18, 19, 20, 21, 22, 23, 24, 25, 26, 27, 28, 29, 30, 31, 32, 33, 34, 35, 36, 37, 38, 39, 40, 41, 42, 43, 44, 45, 46, 47, 48]
    obtain ⟨x, C, rfl⟩ : ∃ x C', C = x :: C' := by
      cases C with
      | nil => simp at hlen; omega
      | cons x C => exact ⟨x, C, rfl⟩
    refine Ps.loop (J := List Int × List Int) ⟨fun j => (j.1 ++ j.2) = S ∧ ∀ b ∈ j.2, x ≤ b, fun j => [(7, i64P j.1.length)], fun j => (id, v, .blk 1 ((j.1 ++ x :: (j.2 ++ C)).map u16P) true) :: M0, fun j => j.1.length⟩ [7, 16, 17, 18, 19, 20, 21, 22, 23, 24, 25, 26, 27, 28, 29, 30, 31, 32, 33, 34, 35, 36, 37, 38, 39, 40, 41, 42, 43, 44, 45, 46, 47, 48] [(15, _), (12, _), (11, _), (10, _), (6, _), (9, _), (8, _), (0, _), (1, _), (2, _)] (S, []) rfl ⟨List.append_nil _, fun b hb => by cases hb⟩ ⟨rfl, trivial⟩ (List.Sublist.refl _) (fun j hj => ?_)
    obtain ⟨A, B⟩ := j
    obtain ⟨hAB, hxB⟩ : A ++ B = S ∧ ∀ b ∈ B, x ≤ b := hj
    have hAl : A.length ≤ S.length := by rw [← hAB]; simp
    simp only [List.length_cons] at hlen
    dsimp only [List.cons_append, List.nil_append]
    refine Ps.seq ?_
    refine Ps.seq ?_
    refine Ps.region rfl ?_
    refine Rs.move rfl rfl ?_
    refine Rs.move rfl rfl ?_
    refine Rs.binB rfl rfl rfl rfl rfl rfl ?_
    refine Rs.move rfl rfl ?_
    refine Rs.guard1 (w' := false) rfl rfl rfl (fun hg => ?_) (fun hg => ?_)
    · try replace hg := dc hg
      refine Rs.move rfl rfl ?_
      refine Rs.guardT rfl ?_
      refine Rs.move rfl rfl ?_
      refine Rs.guardT rfl ?_
      obtain ⟨A, y, rfl⟩ : ∃ A' y, A = A' ++ [y] := ⟨A.dropLast, A.getLast (by intro e; subst e; simp at hg), (List.dropLast_concat_getLast _).symm⟩
      have el : (A ++ [y] ++ x :: (B ++ C)).map u16P = A.map u16P ++ u16P y :: u16P x :: (B ++ C).map u16P := by simp
      rw [el]
      refine Rs.indexO (j := A.length + 1) rfl rfl rfl rfl rfl (by simp) (by simp at hlen hAl; omega) ?_
      refine Rs.guardT rfl ?_
      refine Rs.loadP (p := u16P x) 0 rfl rfl rfl rfl (by unfold partE; rw [Nat.zero_add, show A.map u16P ++ u16P y :: u16P x :: (B ++ C).map u16P = (A.map u16P ++ [u16P y]) ++ u16P x :: (B ++ C).map u16P by simp, mid_at _ _ _ (by simp)]; rfl) ?_
      refine Rs.guardT rfl ?_
      refine Rs.move rfl rfl ?_
      refine Rs.guardT rfl ?_
      refine Rs.move rfl rfl ?_
      refine Rs.guardT rfl ?_
      refine Rs.sub rfl rfl rfl (by first | exact W_i64p (by omega) (by omega) | exact W_i64 (by omega) (by omega) | rfl) ?_
      refine Rs.guardT rfl ?_
      refine Rs.indexO (j := A.length) rfl rfl rfl rfl rfl (by simp) (by simp at hlen hAl; omega) ?_
      refine Rs.guardT rfl ?_
      refine Rs.loadP (p := u16P y) 0 rfl rfl rfl rfl (by unfold partE; rw [Nat.zero_add, mid_at _ _ _ (by simp)]; rfl) ?_
      refine Rs.guardT rfl ?_
      refine Rs.call0 rfl rfl rfl (less16 _ _) (fun p29 hp => ?_)
      obtain rfl := hp
      refine Rs.pickT (q := .lit _) rfl rfl rfl rfl ?_
      refine Rs.nil ?_
      refine Ps.thn ?_
      refine Ps.if rfl (fun hc => ?_) (fun hc => ?_)
      · try replace hc := dc hc
        refine Ps.skip ?_
        refine Ps.thn ?_
        refine Ps.seq ?_
        refine Ps.block ?_
        refine Ps.region rfl ?_
        refine Rs.move rfl rfl ?_
        refine Rs.move rfl rfl ?_
        refine Rs.move rfl rfl ?_
        refine Rs.move rfl rfl ?_
        refine Rs.sub rfl rfl rfl (by first | exact W_i64p (by omega) (by omega) | exact W_i64 (by omega) (by omega) | rfl) ?_
        refine Rs.move rfl rfl ?_
        refine Rs.move rfl rfl ?_
        refine Rs.sub rfl rfl rfl (by first | exact W_i64p (by omega) (by omega) | exact W_i64 (by omega) (by omega) | rfl) ?_
        refine Rs.indexO (j := A.length) rfl rfl rfl rfl rfl (by simp) (by simp at hlen hAl; omega) ?_
        refine Rs.loadP (p := u16P y) 0 rfl rfl rfl rfl (by unfold partE; rw [Nat.zero_add, mid_at _ _ _ (by simp)]; rfl) ?_
        refine Rs.move rfl rfl ?_
        refine Rs.move rfl rfl ?_
        refine Rs.indexO (j := A.length + 1) rfl rfl rfl rfl rfl (by simp) (by simp at hlen hAl; omega) ?_
        refine Rs.loadP (p := u16P x) 0 rfl rfl rfl rfl (by unfold partE; rw [Nat.zero_add, show A.map u16P ++ u16P y :: u16P x :: (B ++ C).map u16P = (A.map u16P ++ [u16P y]) ++ u16P x :: (B ++ C).map u16P by simp, mid_at _ _ _ (by simp)]; rfl) ?_
        refine Rs.indexO (j := A.length + 1) rfl rfl rfl rfl rfl (by simp) (by simp at hlen hAl; omega) ?_
        refine Rs.store0 (l' := A.map u16P ++ u16P y :: u16P y :: (B ++ C).map u16P) rfl rfl rfl (by rw [Nat.zero_add, show A.map u16P ++ u16P y :: u16P x :: (B ++ C).map u16P = (A.map u16P ++ [u16P y]) ++ u16P x :: (B ++ C).map u16P by simp, storeB_lit (e := .int .u16 x) rfl (mid_at _ _ _ (by simp)) rfl rfl rfl, mid_set _ _ _ _ (by simp)]; simp) ?_
        refine Rs.indexO (j := A.length) rfl rfl rfl rfl rfl (by simp) (by simp at hlen hAl; omega) ?_
        refine Rs.store0 (l' := A.map u16P ++ u16P x :: u16P y :: (B ++ C).map u16P) rfl rfl rfl (by rw [Nat.zero_add, storeB_lit (e := .int .u16 y) rfl (mid_at _ _ _ (by simp)) rfl rfl rfl, mid_set _ _ _ _ (by simp)]) ?_
        refine Rs.nil ?_
        refine Ps.blk ?_
        refine Ps.thn ?_
        refine Ps.region rfl ?_
        refine Rs.move rfl rfl ?_
        refine Rs.sub rfl rfl rfl (by first | exact W_i64p (by omega) (by omega) | exact W_i64 (by omega) (by omega) | rfl) ?_
        refine Rs.assign rfl rfl ?_
        refine Rs.nil ?_
        -- leaf 1 (round2)
        refine Ps.round (A, y :: B) ⟨by rw [← hAB]; simp, ?_⟩ (by show A.length < (A ++ [y]).length; simp) ⟨?_, trivial⟩ (by repeat' first | exact HasL.nil | refine HasL.cons rfl ?_) ?_
        · intro b hb
          rcases List.mem_cons.1 hb with rfl | hb
          · omega
          · exact hxB b hb
        · rw [show ((A ++ [y]).length - 1) = A.length by simp]; rfl
        · rw [show A.map u16P ++ u16P x :: u16P y :: (B ++ C).map u16P = (A ++ x :: (y :: B ++ C)).map u16P by simp]; exact List.Sublist.refl _
      · try replace hc := dc hc
        refine Ps.exit ?_
        refine Ps.thn_exit ?_
        refine Ps.rnd_exit ?_
        refine Ps.blk_here ?_
        refine Ps.blk ?_
        refine Ps.thn ?_
        refine Ps.region rfl ?_
        refine Rs.move rfl rfl ?_
        refine Rs.add rfl rfl rfl (by first | exact W_i64s (by omega) | exact W_i64 (by omega) (by omega) | rfl) ?_
        refine Rs.assign rfl rfl ?_
        refine Rs.nil ?_
        -- leaf 2 (round1)
        subst hAB
        first
          | (obtain rfl : A = [] := by cases A with
               | nil => rfl
               | cons a A => simp at hg
             exact Ps.round ([] ++ x :: B, C) ⟨by simp, perm_ins hP, srt_ins hSrt (by simp) hxB⟩ (by show C.length < (x :: C).length; simp) ⟨by simp [lk], trivial⟩ (by repeat' first | exact HasL.nil | refine HasL.cons rfl ?_) (by rw [show [] ++ x :: (B ++ C) = ([] ++ x :: B) ++ C by simp]; exact List.Sublist.refl _))
          | (refine Ps.round (A ++ [y] ++ x :: B, C) ⟨by simp; omega, perm_ins hP, srt_ins hSrt (srt_last (srt_left hSrt) (by omega)) hxB⟩ (by show C.length < (x :: C).length; simp) ⟨by simp [lk]; omega, trivial⟩ (by repeat' first | exact HasL.nil | refine HasL.cons rfl ?_) ?_
             rw [show List.map u16P A ++ u16P y :: u16P x :: List.map u16P (B ++ C) = (A ++ [y] ++ x :: B ++ C).map u16P by simp]; exact List.Sublist.refl _)
    · try replace hg := dc hg
      refine Rs.guardF1 rfl rfl rfl ?_
      refine Rs.guardF1 rfl rfl rfl ?_
      refine Rs.guardF1 rfl rfl rfl ?_
      refine Rs.guardF1 rfl rfl rfl ?_
      refine Rs.guardF1 rfl rfl rfl ?_
      refine Rs.guardF1 rfl rfl rfl ?_
      refine Rs.guardF1 rfl rfl rfl ?_
      refine Rs.guardF1 rfl rfl rfl ?_
      refine Rs.guardF1 rfl rfl rfl ?_
      refine Rs.pickF (q := .lit _) rfl rfl rfl rfl ?_
      refine Rs.nil ?_
      refine Ps.thn ?_
      refine Ps.ifF rfl ?_
      refine Ps.exit ?_
      refine Ps.thn_exit ?_
      refine Ps.rnd_exit ?_
      refine Ps.blk_here ?_
      refine Ps.blk ?_
      refine Ps.thn ?_
      refine Ps.region rfl ?_
      refine Rs.move rfl rfl ?_
      refine Rs.add rfl rfl rfl (by first | exact W_i64s (by omega) | exact W_i64 (by omega) (by omega) | rfl) ?_
      refine Rs.assign rfl rfl ?_
      refine Rs.nil ?_
      -- leaf 3 (round1)
      subst hAB
      first
        | (obtain rfl : A = [] := by cases A with
             | nil => rfl
             | cons a A => simp at hg
           exact Ps.round ([] ++ x :: B, C) ⟨by simp, perm_ins hP, srt_ins hSrt (by simp) hxB⟩ (by show C.length < (x :: C).length; simp) ⟨by simp [lk], trivial⟩ (by repeat' first | exact HasL.nil | refine HasL.cons rfl ?_) (by rw [show [] ++ x :: (B ++ C) = ([] ++ x :: B) ++ C by simp]; exact List.Sublist.refl _))
        | (refine Ps.round (A ++ [y] ++ x :: B, C) ⟨by simp; omega, perm_ins hP, srt_ins hSrt (srt_last (srt_left hSrt) (by omega)) hxB⟩ (by show C.length < (x :: C).length; simp) ⟨by simp [lk]; omega, trivial⟩ (by repeat' first | exact HasL.nil | refine HasL.cons rfl ?_) ?_
           rw [show List.map u16P A ++ u16P y :: u16P x :: List.map u16P (B ++ C) = (A ++ [y] ++ x :: B ++ C).map u16P by simp]; exact List.Sublist.refl _)
  · try replace hc := dc hc
    refine Ps.exit ?_
    refine Ps.thn_exit ?_
    refine Ps.rnd_exit ?_
    refine Ps.blk_here ?_
    -- leaf 4 (end)
    obtain rfl : C = [] := by cases C with
      | nil => rfl
      | cons a A => simp at hlen; omega
    rw [List.append_nil] at hP ⊢
    exact Ps.finM0 rfl .nil ⟨S, hP, hSrt, rfl⟩
def isSomeO {α : Type} : Option α → Bool | some _ => true | none => false
theorem bits_0 : isSomeO (callPure (cfg spc) (exec (cfg spc) 60) 98 [u64P 0]) = true := by kernel_rfl
theorem bits_1 : isSomeO (callPure (cfg spc) (exec (cfg spc) 60) 98 [u64P 1]) = true := by kernel_rfl
theorem bits_2 : isSomeO (callPure (cfg spc) (exec (cfg spc) 60) 98 [u64P 2]) = true := by kernel_rfl
theorem bits_3 : isSomeO (callPure (cfg spc) (exec (cfg spc) 60) 98 [u64P 3]) = true := by kernel_rfl
theorem bits_4 : isSomeO (callPure (cfg spc) (exec (cfg spc) 60) 98 [u64P 4]) = true := by kernel_rfl
theorem bits_5 : isSomeO (callPure (cfg spc) (exec (cfg spc) 60) 98 [u64P 5]) = true := by kernel_rfl
theorem bits_6 : isSomeO (callPure (cfg spc) (exec (cfg spc) 60) 98 [u64P 6]) = true := by kernel_rfl
theorem bits_7 : isSomeO (callPure (cfg spc) (exec (cfg spc) 60) 98 [u64P 7]) = true := by kernel_rfl
theorem bits_8 : isSomeO (callPure (cfg spc) (exec (cfg spc) 60) 98 [u64P 8]) = true := by kernel_rfl
theorem bits_9 : isSomeO (callPure (cfg spc) (exec (cfg spc) 60) 98 [u64P 9]) = true := by kernel_rfl
theorem bitsLen (n : Int) (h : 0 ≤ n ∧ n ≤ 9) : Fn (cfg spc) 98 [u64P n] (fun _ => True) := by
  have : isSomeO (callPure (cfg spc) (exec (cfg spc) 60) 98 [u64P n]) = true := by
    have h10 : n = 0 ∨ n = 1 ∨ n = 2 ∨ n = 3 ∨ n = 4 ∨ n = 5 ∨ n = 6 ∨ n = 7 ∨ n = 8 ∨ n = 9 := by omega
    rcases h10 with rfl | rfl | rfl | rfl | rfl | rfl | rfl | rfl | rfl | rfl
    · exact bits_0
    · exact bits_1
    · exact bits_2
    · exact bits_3
    · exact bits_4
    · exact bits_5
    · exact bits_6
    · exact bits_7
    · exact bits_8
    · exact bits_9
  cases e : callPure (cfg spc) (exec (cfg spc) 60) 98 [u64P n] with
  | none => rw [e] at this; cases this
  | some p => exact ⟨60, p, e, trivial⟩
theorem pdq (l : List Int) (id v : Nat) (q : PV) (M0 : Mem) (hl : l.length ≤ 9) (h0 : 1 ≤ l.length) : Fm0 (cfg spc) 97 [.own id v 1 0 l.length none, i64P 0, i64P l.length, q] ((id, v, .blk 1 (l.map u16P) true) :: M0) (fun _ M' => ∃ l', l'.Perm l ∧ Srt l' ∧ M' = (id, v, .blk 1 (l'.map u16P) true) :: M0) := by
  refine Fm0.go Tryz.func97 (L := [(0, _), (1, _), (2, _), (3, _)]) rfl rfl rfl rfl ?_
  refine Ps.seq ?_
  refine Ps.region rfl ?_
  refine Rs.assign (p := .lit _) rfl rfl ?_
  refine Rs.nil ?_
  refine Ps.thn ?_
  refine Ps.seq ?_
  refine Ps.region rfl ?_
  refine Rs.assign (p := .lit _) rfl rfl ?_
  refine Rs.nil ?_
  refine Ps.thn ?_
  refine Ps.block ?_
  -- loop 1 writes [1, 2, 3, 8, 9, 10, 11, 12, 13, 14, 15, 16, 17, 18, 19, 20, 21, 22, 23, 24, 25, 26, 27, 28, 29, 30, 31, 32, 33, 34, 35, 36, 37, 38, 39, 40, 41, 42, 43, 44, 45, 46, 47, 48, 49, 50, 51, 52, 53, 54, 55, 56, 57, 58, 59, 60, 61, 62, 63, 64, 65, 66, 67, 68, 69, 70, 71, 72, 73, 74, 75, 76, 77, 78, 79, 80, 81, 82, 83, 84, 85, 86, 87, 88, 89, 90, 91, 92, 93, 94, 95, 96, 97, 98, 99, 100, 101, 102, 103, 104, 105, 106, 107, 108, 109, 110, 111, 112, 113, 114, 115, 116, 117, 118, 119, 120, 121, 122, 123, 124, 125, 126, 127, 128, 129, 130, 131, 132, 133]
  refine Ps.loop (J := Unit) ⟨fun _ => True, fun _ => [(1, i64P 0), (2, i64P l.length), (3, q)], fun _ => (id, v, .blk 1 (l.map u16P) true) :: M0, fun _ => 0⟩ [1, 2, 3, 8, 9, 10, 11, 12, 13, 14, 15, 16, 17, 18, 19, 20, 21, 22, 23, 24, 25, 26, 27, 28, 29, 30, 31, 32, 33, 34, 35, 36, 37, 38, 39, 40, 41, 42, 43, 44, 45, 46, 47, 48, 49, 50, 51, 52, 53, 54, 55, 56, 57, 58, 59, 60, 61, 62, 63, 64, 65, 66, 67, 68, 69, 70, 71, 72, 73, 74, 75, 76, 77, 78, 79, 80, 81, 82, 83, 84, 85, 86, 87, 88, 89, 90, 91, 92, 93, 94, 95, 96, 97, 98, 99, 100, 101, 102, 103, 104, 105, 106, 107, 108, 109, 110, 111, 112, 113, 114, 115, 116, 117, 118, 119, 120, 121, 122, 123, 124, 125, 126, 127, 128, 129, 130, 131, 132, 133] [(0, _)] () rfl trivial ⟨rfl, rfl, rfl, trivial⟩ (List.Sublist.refl _) (fun j hj => ?_)
  dsimp only [List.cons_append, List.nil_append]
  refine Ps.block ?_
  refine Ps.seq ?_
  refine Ps.region rfl ?_
  refine Rs.move rfl rfl ?_
  refine Rs.move rfl rfl ?_
  refine Rs.sub rfl rfl rfl (by first | exact W_i64p (by omega) (by omega) | exact W_i64 (by omega) (by omega) | rfl) ?_
  refine Rs.assign rfl rfl ?_
  refine Rs.nil ?_
  refine Ps.thn ?_
  refine Ps.seq ?_
  refine Ps.seq ?_
  refine Ps.region rfl ?_
  refine Rs.move rfl rfl ?_
  refine Rs.binB rfl rfl rfl rfl rfl rfl ?_
  refine Rs.nil ?_
  refine Ps.thn ?_
  refine Ps.if rfl (fun hc => ?_) (fun hc => ?_)
  · try replace hc := dc hc
    refine Ps.seq ?_
    refine Ps.region rfl ?_
    refine Rs.move rfl rfl ?_
    refine Rs.move rfl rfl ?_
    refine Rs.move rfl rfl ?_
    refine Rs.call2 rfl rfl rfl (insort l id v M0 (by omega) h0) (fun p27 M27 hp27 => ?_)
    obtain ⟨l', hp1, hp2, rfl⟩ := hp27
    refine Rs.nil ?_
    refine Ps.thn ?_
    refine Ps.ret ?_
    refine Ps.thn_ret ?_
    refine Ps.blk_ret ?_
    refine Ps.rnd_ret ?_
    refine Ps.blk_ret ?_
    -- leaf 1 (ret)
    exact Ps.finM0 rfl .nil ⟨l', hp1, hp2, rfl⟩
  · try replace hc := dc hc
    refine Ps.skip ?_
    refine Ps.thn ?_
    refine Ps.seq ?_
    refine Ps.seq ?_
    exfalso; omega
theorem sort16 (l : List Int) (id v : Nat) (M0 : Mem) (hl : l.length ≤ 9) (h0 : 1 ≤ l.length) : Fm0 (cfg spc) 79 [.own id v 1 0 l.length none] ((id, v, .blk 1 (l.map u16P) true) :: M0) (fun _ M' => ∃ l', l'.Perm l ∧ Srt l' ∧ M' = (id, v, .blk 1 (l'.map u16P) true) :: M0) := by
  refine Fm0.go Tryz.func79 (L := [(0, _)]) rfl rfl rfl rfl ?_
  refine Ps.seq ?_
  refine Ps.region rfl ?_
  refine Rs.move rfl rfl ?_
  first | refine Rs.lenD rfl rfl rfl rfl ?_ | refine Rs.lenO rfl rfl rfl rfl ?_ | refine Rs.lenI rfl rfl rfl rfl ?_ | refine Rs.lenA rfl rfl rfl rfl (by assumption) ?_ | refine Rs.lenS rfl rfl rfl rfl (by assumption) ?_
  refine Rs.assign rfl rfl ?_
  refine Rs.nil ?_
  refine Ps.thn ?_
  refine Ps.region rfl ?_
  refine Rs.move rfl rfl ?_
  refine Rs.move rfl rfl ?_
  refine Rs.move rfl rfl ?_
  refine Rs.convI rfl rfl ⟨_, rfl⟩ rfl rfl (by first | exact W_u64 (by omega) (by omega) | rfl) ?_
  refine Rs.call0 rfl rfl rfl (bitsLen _ (by omega)) (fun p9 hp => ?_)
  clear hp
  refine Rs.call2 rfl rfl rfl (pdq l id v _ M0 (by omega) h0) (fun p10 M10 hp10 => ?_)
  obtain ⟨l', hp1, hp2, rfl⟩ := hp10
  refine Rs.nil ?_
  -- leaf 1 (end)
  exact Ps.finM0 rfl .nil ⟨l', hp1, hp2, rfl⟩
theorem insort0 (M : Mem) : Fm0 (cfg spc) 126 [nilP, i64P 0, i64P 0] M (fun _ M' => M' = M) := by
  refine Fm0.go Tryz.func126 (L := [(0, _), (1, _), (2, _)]) rfl rfl rfl rfl ?_
  refine Ps.seq ?_
  refine Ps.region rfl ?_
  refine Rs.move rfl rfl ?_
  refine Rs.add rfl rfl rfl (by first | exact W_i64s (by omega) | exact W_i64 (by omega) (by omega) | rfl) ?_
  refine Rs.assign rfl rfl ?_
  refine Rs.nil ?_
  refine Ps.thn ?_
  refine Ps.block ?_
  -- loop 1 writes [6, 7, 10, 11, 12, 13, 14, 15, 16, 17, 18, 19, 20, 21, 22, 23, 24, 25, 26, 27, 28, 29, 30, 31, 32, 33, 34, 35, 36, 37, 38, 39, 40, 41, 42, 43, 44, 45, 46, 47, 48]
  refine Ps.loop (J := Unit) ⟨fun _ => True, fun _ => [(6, i64P 1)], fun _ => M, fun _ => 0⟩ [6, 7, 10, 11, 12, 13, 14, 15, 16, 17, 18, 19, 20, 21, 22, 23, 24, 25, 26, 27, 28, 29, 30, 31, 32, 33, 34, 35, 36, 37, 38, 39, 40, 41, 42, 43, 44, 45, 46, 47, 48] [(9, _), (8, _), (0, _), (1, _), (2, _)] () rfl trivial ⟨rfl, trivial⟩ (List.Sublist.refl _) (fun j hj => ?_)
  dsimp only [List.cons_append, List.nil_append]
  refine Ps.seq ?_
  refine Ps.seq ?_
  refine Ps.region rfl ?_
  refine Rs.move rfl rfl ?_
  refine Rs.move rfl rfl ?_
  refine Rs.binB rfl rfl rfl rfl rfl rfl ?_
  refine Rs.nil ?_
  refine Ps.thn ?_
  refine Ps.if rfl (fun hc => ?_) (fun hc => ?_)
  · try replace hc := dc hc
    refine Ps.skip ?_
    refine Ps.thn ?_
    refine Ps.seq ?_
    refine Ps.block ?_
    refine Ps.seq ?_
    exfalso; omega
  · try replace hc := dc hc
    refine Ps.exit ?_
    refine Ps.thn_exit ?_
    refine Ps.rnd_exit ?_
    refine Ps.blk_here ?_
    -- leaf 1 (end)
    exact Ps.finM0 rfl .nil rfl
theorem pdq0 (q : PV) (M : Mem) : Fm0 (cfg spc) 97 [nilP, i64P 0, i64P 0, q] M (fun _ M' => M' = M) := by
  refine Fm0.go Tryz.func97 (L := [(0, _), (1, _), (2, _), (3, _)]) rfl rfl rfl rfl ?_
  refine Ps.seq ?_
  refine Ps.region rfl ?_
  refine Rs.assign (p := .lit _) rfl rfl ?_
  refine Rs.nil ?_
  refine Ps.thn ?_
  refine Ps.seq ?_
  refine Ps.region rfl ?_
  refine Rs.assign (p := .lit _) rfl rfl ?_
  refine Rs.nil ?_
  refine Ps.thn ?_
  refine Ps.block ?_
  -- loop 1 writes [1, 2, 3, 8, 9, 10, 11, 12, 13, 14, 15, 16, 17, 18, 19, 20, 21, 22, 23, 24, 25, 26, 27, 28, 29, 30, 31, 32, 33, 34, 35, 36, 37, 38, 39, 40, 41, 42, 43, 44, 45, 46, 47, 48, 49, 50, 51, 52, 53, 54, 55, 56, 57, 58, 59, 60, 61, 62, 63, 64, 65, 66, 67, 68, 69, 70, 71, 72, 73, 74, 75, 76, 77, 78, 79, 80, 81, 82, 83, 84, 85, 86, 87, 88, 89, 90, 91, 92, 93, 94, 95, 96, 97, 98, 99, 100, 101, 102, 103, 104, 105, 106, 107, 108, 109, 110, 111, 112, 113, 114, 115, 116, 117, 118, 119, 120, 121, 122, 123, 124, 125, 126, 127, 128, 129, 130, 131, 132, 133]
  refine Ps.loop (J := Unit) ⟨fun _ => True, fun _ => [(1, i64P 0), (2, i64P 0), (3, q)], fun _ => M, fun _ => 0⟩ [1, 2, 3, 8, 9, 10, 11, 12, 13, 14, 15, 16, 17, 18, 19, 20, 21, 22, 23, 24, 25, 26, 27, 28, 29, 30, 31, 32, 33, 34, 35, 36, 37, 38, 39, 40, 41, 42, 43, 44, 45, 46, 47, 48, 49, 50, 51, 52, 53, 54, 55, 56, 57, 58, 59, 60, 61, 62, 63, 64, 65, 66, 67, 68, 69, 70, 71, 72, 73, 74, 75, 76, 77, 78, 79, 80, 81, 82, 83, 84, 85, 86, 87, 88, 89, 90, 91, 92, 93, 94, 95, 96, 97, 98, 99, 100, 101, 102, 103, 104, 105, 106, 107, 108, 109, 110, 111, 112, 113, 114, 115, 116, 117, 118, 119, 120, 121, 122, 123, 124, 125, 126, 127, 128, 129, 130, 131, 132, 133] [(0, _)] () rfl trivial ⟨rfl, rfl, rfl, trivial⟩ (List.Sublist.refl _) (fun j hj => ?_)
  dsimp only [List.cons_append, List.nil_append]
  refine Ps.block ?_
  refine Ps.seq ?_
  refine Ps.region rfl ?_
  refine Rs.move rfl rfl ?_
  refine Rs.move rfl rfl ?_
  refine Rs.sub rfl rfl rfl (by first | exact W_i64p (by omega) (by omega) | exact W_i64 (by omega) (by omega) | rfl) ?_
  refine Rs.assign rfl rfl ?_
  refine Rs.nil ?_
  refine Ps.thn ?_
  refine Ps.seq ?_
  refine Ps.seq ?_
  refine Ps.region rfl ?_
  refine Rs.move rfl rfl ?_
  refine Rs.binB rfl rfl rfl rfl rfl rfl ?_
  refine Rs.nil ?_
  refine Ps.thn ?_
  refine Ps.if rfl (fun hc => ?_) (fun hc => ?_)
  · try replace hc := dc hc
    refine Ps.seq ?_
    refine Ps.region rfl ?_
    refine Rs.move rfl rfl ?_
    refine Rs.move rfl rfl ?_
    refine Rs.move rfl rfl ?_
    refine Rs.call2 rfl rfl rfl (insort0 _) (fun p27 M27 hp27 => ?_)
    obtain rfl := hp27
    refine Rs.nil ?_
    refine Ps.thn ?_
    refine Ps.ret ?_
    refine Ps.thn_ret ?_
    refine Ps.blk_ret ?_
    refine Ps.rnd_ret ?_
    refine Ps.blk_ret ?_
    -- leaf 1 (ret)
    exact Ps.finM0 rfl .nil rfl
  · try replace hc := dc hc
    refine Ps.skip ?_
    refine Ps.thn ?_
    refine Ps.seq ?_
    refine Ps.seq ?_
    exfalso; omega
theorem sort0 (M : Mem) : Fm0 (cfg spc) 79 [nilP] M (fun _ M' => M' = M) := by
  refine Fm0.go Tryz.func79 (L := [(0, _)]) rfl rfl rfl rfl ?_
  refine Ps.seq ?_
  refine Ps.region rfl ?_
  refine Rs.move rfl rfl ?_
  first | refine Rs.lenD rfl rfl rfl rfl ?_ | refine Rs.lenO rfl rfl rfl rfl ?_ | refine Rs.lenI rfl rfl rfl rfl ?_ | refine Rs.lenA rfl rfl rfl rfl (by assumption) ?_ | refine Rs.lenS rfl rfl rfl rfl (by assumption) ?_
  refine Rs.assign rfl rfl ?_
  refine Rs.nil ?_
  refine Ps.thn ?_
  refine Ps.region rfl ?_
  refine Rs.move rfl rfl ?_
  refine Rs.move rfl rfl ?_
  refine Rs.move rfl rfl ?_
  refine Rs.convI rfl rfl ⟨_, rfl⟩ rfl rfl (by first | exact W_u64 (by omega) (by omega) | rfl) ?_
  refine Rs.call0 rfl rfl rfl (bitsLen _ (by omega)) (fun p9 hp => ?_)
  clear hp
  refine Rs.call2 rfl rfl rfl (pdq0 _ _) (fun p10 M10 hp10 => ?_)
  obtain rfl := hp10
  refine Rs.nil ?_
  -- leaf 1 (end)
  exact Ps.finM0 rfl .nil rfl
theorem index16 (l : List Int) (p : PV) (n : Int) (hp : IsSl 1 (l.map u16P) p) (hl : l.length < 1000000) : Fn (cfg spc) 96 [p, u16P n] (fun q => ∃ r : Int, q = i64P r ∧ (0 ≤ r ↔ n ∈ l)) := by
  refine Fn.go Tryz.func96 (L := [(0, _), (1, _)]) rfl rfl rfl (by simp [deepL, hp.deep, deepB]) rfl ?_
  refine Ps.seq ?_
  refine Ps.region rfl ?_
  refine Rs.assign (p := .lit _) rfl rfl ?_
  refine Rs.nil ?_
  refine Ps.thn ?_
  refine Ps.seq ?_
  refine Ps.seq ?_
  refine Ps.region rfl ?_
  refine Rs.move rfl rfl ?_
  first | refine Rs.lenD rfl rfl rfl rfl ?_ | refine Rs.lenO rfl rfl rfl rfl ?_ | refine Rs.lenI rfl rfl rfl rfl ?_ | refine Rs.lenA rfl rfl rfl rfl (by assumption) ?_ | refine Rs.lenS rfl rfl rfl rfl (by assumption) ?_
  refine Rs.move (p := .lit _) rfl rfl ?_
  refine Rs.nil ?_
  refine Ps.thn ?_
  refine Ps.block ?_
  -- loop 1 writes [4, 5, 8, 9, 10, 11, 12, 13, 14, 15, 16, 17, 18]
  refine Ps.loop (J := Nat) ⟨fun j => j ≤ l.length ∧ (n ∈ l ↔ n ∈ l.drop j), fun j => [(8, i64P j)], fun _ => [], fun j => l.length - j⟩ [4, 5, 8, 9, 10, 11, 12, 13, 14, 15, 16, 17, 18] [(7, _), (6, _), (0, _), (1, _)] 0 rfl ⟨Nat.zero_le _, by simp⟩ ⟨rfl, trivial⟩ (List.nil_sublist _) (fun j hj => ?_)
  obtain ⟨hj, hjc⟩ : j ≤ l.length ∧ (n ∈ l ↔ n ∈ l.drop j) := hj
  dsimp only [List.cons_append, List.nil_append]
  refine Ps.seq ?_
  refine Ps.region rfl ?_
  refine Rs.binB rfl rfl rfl rfl rfl rfl ?_
  refine Rs.nil ?_
  refine Ps.thn ?_
  refine Ps.seq ?_
  refine Ps.if rfl (fun hc => ?_) (fun hc => ?_)
  · try replace hc := dc hc
    refine Ps.skip ?_
    refine Ps.thn ?_
    refine Ps.seq ?_
    refine Ps.block ?_
    refine Ps.seq ?_
    have hlt : j < l.length := by simp at hc; omega
    obtain ⟨x, hx⟩ := at_lt hlt
    rw [drop_at hx, List.mem_cons] at hjc
    refine Ps.region rfl ?_
    refine Rs.move rfl rfl ?_
    refine Rs.assign rfl rfl ?_
    refine Rs.nil ?_
    refine Ps.thn ?_
    refine Ps.seq ?_
    refine Ps.region rfl ?_
    refine Rs.move rfl rfl ?_
    refine Rs.move rfl rfl ?_
    refine Rs.move rfl rfl ?_
    first | refine Rs.indexD (lc := [_]) rfl rfl rfl rfl rfl rfl (map_at hx) rfl ?_ | refine Rs.indexS (lc := [_]) rfl rfl rfl rfl rfl (by assumption) rfl (map_at hx) rfl ?_
    first | refine Rs.loadR rfl rfl rfl rfl ?_ | refine Rs.loadP 0 rfl rfl rfl rfl rfl ?_ | refine Rs.loadP 1 rfl rfl rfl rfl rfl ?_ | refine Rs.loadP 2 rfl rfl rfl rfl rfl ?_ | refine Rs.loadP 3 rfl rfl rfl rfl rfl ?_
    refine Rs.binB rfl rfl rfl rfl rfl rfl ?_
    refine Rs.nil ?_
    refine Ps.thn ?_
    refine Ps.if rfl (fun hc => ?_) (fun hc => ?_)
    · try replace hc := dc hc
      refine Ps.seq ?_
      refine Ps.region rfl ?_
      refine Rs.move rfl rfl ?_
      refine Rs.assign rfl rfl ?_
      refine Rs.nil ?_
      refine Ps.thn ?_
      refine Ps.ret ?_
      refine Ps.blk_ret ?_
      refine Ps.thn_ret ?_
      refine Ps.rnd_ret ?_
      refine Ps.blk_ret ?_
      refine Ps.thn_ret ?_
      -- leaf 1 (ret)
      refine Ps.finP (l := [_]) rfl (by refine ResR.tmp rfl ?_; exact ResR.nil) (by first | rfl | simp [plainP, plainC, cp_lit, cp_dsl, *]) rfl ?_
      first
        | exact ⟨(j : Int), rfl, by constructor <;> intro h <;> first | (rw [hjc]; exact .inl (by omega)) | omega⟩
        | exact ⟨-1, rfl, by rw [hjc, List.drop_eq_nil_of_le (by simp at hc; omega)]; simp⟩
    · try replace hc := dc hc
      refine Ps.skip ?_
      refine Ps.blk ?_
      refine Ps.thn ?_
      refine Ps.region rfl ?_
      refine Rs.add rfl rfl rfl (by first | exact W_i64s (by omega) | exact W_i64 (by omega) (by omega) | rfl) ?_
      refine Rs.move rfl rfl ?_
      refine Rs.nil ?_
      -- leaf 2 (round1)
      exact Ps.round (j + 1) ⟨hlt, by rw [hjc]; constructor <;> intro h <;> first | exact .inr h | exact h.resolve_left (by omega)⟩ (by show l.length - (j + 1) < l.length - j; omega) ⟨rfl, trivial⟩ (by repeat' first | exact HasL.nil | refine HasL.cons rfl ?_) (List.nil_sublist _)
  · try replace hc := dc hc
    refine Ps.exit ?_
    refine Ps.thn_exit ?_
    refine Ps.rnd_exit ?_
    refine Ps.blk_here ?_
    refine Ps.thn ?_
    refine Ps.seq ?_
    refine Ps.region rfl ?_
    refine Rs.assign (p := .lit _) rfl rfl ?_
    refine Rs.nil ?_
    refine Ps.thn ?_
    refine Ps.ret ?_
    -- leaf 3 (ret)
    refine Ps.finP (l := [_]) rfl (by refine ResR.tmp rfl ?_; exact ResR.nil) (by first | rfl | simp [plainP, plainC, cp_lit, cp_dsl, *]) rfl ?_
    first
      | exact ⟨(j : Int), rfl, by constructor <;> intro h <;> first | (rw [hjc]; exact .inl (by omega)) | omega⟩
      | exact ⟨-1, rfl, by rw [hjc, List.drop_eq_nil_of_le (by simp at hc; omega)]; simp⟩
theorem contains16 (l : List Int) (p : PV) (n : Int) (hp : IsSl 1 (l.map u16P) p) (hl : l.length < 1000000) : Fn (cfg spc) 78 [p, u16P n] (· = boolP (decide (n ∈ l))) := by
  refine Fn.go Tryz.func78 (L := [(0, _), (1, _)]) rfl rfl rfl (by simp [deepL, hp.deep, deepB]) rfl ?_
  refine Ps.seq ?_
  refine Ps.region rfl ?_
  refine Rs.assign (p := .lit _) rfl rfl ?_
  refine Rs.nil ?_
  refine Ps.thn ?_
  refine Ps.seq ?_
  refine Ps.region rfl ?_
  refine Rs.move rfl rfl ?_
  refine Rs.move rfl rfl ?_
  refine Rs.call1 rfl rfl rfl (fun H hH => DpL.top (n := 98000) (by repeat' first | exact DpL.nil | apply DpL.cons (Dp.plain _ rfl rfl) | apply DpL.cons (Dp.sl _ (by assumption)) | apply DpL.cons (Dp.up (Dp.g (by assumption) hH (fun x hx => by first | (simp [hx]; done) | exact List.mem_cons_of_mem _ (List.mem_append_left _ hx) | exact List.mem_cons_of_mem _ (List.mem_cons_of_mem _ (List.mem_append_left _ hx)) | exact List.mem_append_left _ hx) (by intro p hp; obtain ⟨x, _, rfl⟩ := List.mem_map.1 hp; rfl) (by simp; omega)) rfl) | apply DpL.cons (Dp.agg (n := 96000) ?_ rfl)) rfl) (index16 l _ _ hp hl) (by first | (intro p hp; rw [hp]; rfl) | (rintro p ⟨r, rfl, _⟩; rfl)) (fun p7 hp => ?_)
  obtain ⟨r, rfl, hr⟩ := hp
  refine Rs.binB rfl rfl rfl rfl rfl rfl ?_
  refine Rs.assign rfl rfl ?_
  refine Rs.nil ?_
  refine Ps.thn ?_
  refine Ps.ret ?_
  -- leaf 1 (ret)
  refine Ps.finP (l := [_]) rfl (by refine ResR.tmp rfl ?_; exact ResR.nil) (by first | rfl | simp [plainP, plainC, cp_lit, cp_dsl, *]) rfl ?_
  show boolP _ = boolP _
  congr 2
  exact propext hr
end Go.Proofs.YtddaogebacigbaaGreatDoor.RV.T
end
section
open Go Go.Proofs.YtddaogebacigbaaGreatDoor.RV Go.Proofs.YtddaogebacigbaaGreatDoor.XA.Awk Go.Proofs.YtddaogebacigbaaGreatDoor.RV.ChartMath Go.Proofs
namespace Go.Proofs.YtddaogebacigbaaGreatDoor.RV.T
set_option maxRecDepth 100000
set_option linter.unusedVariables false
set_option linter.unusedSimpArgs false
variable {spc : Sp}
def SI (l : List Int) : Prop := l.Pairwise (· < ·)
structure MadeU (u : List Int) : Prop where
  si : SI u
  rng : ∀ x ∈ u, 1 ≤ x ∧ x ≤ 9
theorem nodup_le : ∀ (m : Nat) (l : List Int), l.Nodup → (∀ x ∈ l, 1 ≤ x ∧ x ≤ (m : Int)) → l.length ≤ m
  | 0, l, _, h => by
    cases l with
    | nil => simp
    | cons x t =>
      have := h x (by simp)
      omega
  | m + 1, l, d, h => by
    have ih := nodup_le m (l.erase ((m + 1 : Nat) : Int)) (d.erase _) (fun x hx => by
      have h1 := (List.Nodup.mem_erase_iff d).1 hx
      have h2 := h x h1.2
      have h3 := h1.1
      omega)
    by_cases hm : ((m + 1 : Nat) : Int) ∈ l
    · rw [List.length_erase_of_mem hm] at ih
      omega
    · rw [List.erase_of_not_mem hm] at ih
      omega
theorem SI.nodup {l : List Int} (S : SI l) : l.Nodup := S.imp (fun h => by omega)
theorem MadeU.len {u : List Int} (h : MadeU u) : u.length ≤ 9 := nodup_le 9 u h.si.nodup h.rng
theorem madeU_of {l l' : List Int} (hd : l.Nodup) (hr : ∀ x ∈ l, 1 ≤ x ∧ x ≤ 9) (hp : l'.Perm l) (hs : Srt l') : MadeU l' :=
  ⟨(List.pairwise_and_iff.2 ⟨hs, (hp.nodup_iff.2 hd : l'.Pairwise _)⟩).imp (fun {a b} h => by have h1 := h.1; have h2 := h.2; omega), fun x hx => hr x (hp.mem_iff.1 hx)⟩
theorem gP_len {s : Nat} {a : Option (Nat × Nat)} {l l' : List PV} (h : l.length = l'.length) : gP s a l = gP s a l' := by
  cases a with
  | none => rfl
  | some iv => show PV.own _ _ _ _ _ _ = PV.own _ _ _ _ _ _; rw [h]
theorem sortG (u : List Int) (a : Option (Nat × Nat)) (M0 : Mem) (hl : u.length ≤ 9) (ha : a = none ↔ u.map u16P = []) : Fm0 (cfg spc) 79 [gP 1 a (u.map u16P)] (gM 1 a (u.map u16P) ++ M0) (fun _ M' => ∃ u', u'.Perm u ∧ Srt u' ∧ M' = gM 1 a (u'.map u16P) ++ M0) := by
  cases a with
  | none =>
    obtain rfl : u = [] := by simpa using ha.1 rfl
    intro H m h1 h2
    obtain ⟨k, p, H', m', h3, M', h4, h5⟩ := sort0 M0 H m h1 h2
    exact ⟨k, p, H', m', h3, M', h4, [], List.Perm.refl _, List.Pairwise.nil, h5⟩
  | some iv =>
    obtain ⟨id, v⟩ := iv
    have hne : 1 ≤ u.length := by
      cases u with
      | nil => have := ha.2 rfl; cases this
      | cons => simp
    have := sort16 (spc := spc) u id v M0 hl hne
    show Fm0 (cfg spc) 79 [.own id v 1 0 (u.map u16P).length none] _ _
    rw [List.length_map]
    exact this
theorem make07_ok (l : List Int) (p : PV) (hp : IsSl 1 (l.map u16P) p) (hl : l.length < 1000000) (hw : ∀ x ∈ l, 0 ≤ x ∧ x ≤ 65535) : Fn (cfg spc) 50 [p] (fun q => ∃ u, MadeU u ∧ (l ≠ [] → u ≠ []) ∧ q = slP 1 (u.map u16P)) := by
  refine Fn.go Tryz.func50 (L := [(0, _)]) rfl rfl rfl (by simp [deepL, hp.deep]) rfl ?_
  refine Ps.seq ?_
  refine Ps.region rfl ?_
  refine Rs.assign (p := .lit _) rfl rfl ?_
  refine Rs.nil ?_
  refine Ps.thn ?_
  refine Ps.seq ?_
  refine Ps.region rfl ?_
  refine Rs.assign (p := .lit _) rfl rfl ?_
  refine Rs.nil ?_
  refine Ps.thn ?_
  refine Ps.seq ?_
  refine Ps.seq ?_
  refine Ps.region rfl ?_
  refine Rs.move rfl rfl ?_
  first | refine Rs.lenD rfl rfl rfl rfl ?_ | refine Rs.lenO rfl rfl rfl rfl ?_ | refine Rs.lenI rfl rfl rfl rfl ?_ | refine Rs.lenA rfl rfl rfl rfl (by assumption) ?_ | refine Rs.lenS rfl rfl rfl rfl (by assumption) ?_
  refine Rs.move (p := .lit _) rfl rfl ?_
  refine Rs.nil ?_
  refine Ps.thn ?_
  refine Ps.block ?_
  -- loop 1 writes [3, 5, 8, 9, 10, 11, 12, 13, 14, 15, 16, 17, 18, 19, 20, 21, 22, 23]
  refine Ps.loop (J := Nat × List Int × Option (Nat × Nat)) ⟨fun j => j.1 ≤ l.length ∧ j.2.1.Nodup ∧ (∀ x ∈ j.2.1, 1 ≤ x ∧ x ≤ 9) ∧ (0 < j.1 → j.2.1 ≠ []) ∧ (j.2.2 = none ↔ j.2.1.map u16P = []), fun j => [(3, gP 1 j.2.2 (j.2.1.map u16P)), (8, i64P j.1)], fun j => gM 1 j.2.2 (j.2.1.map u16P) ++ [], fun j => l.length - j.1⟩ [3, 5, 8, 9, 10, 11, 12, 13, 14, 15, 16, 17, 18, 19, 20, 21, 22, 23] [(7, _), (6, _), (2, _), (0, _)] (0, [], none) rfl ⟨Nat.zero_le _, by simp, by simp, by simp, by simp⟩ ⟨rfl, rfl, trivial⟩ (List.Sublist.refl _) (fun j hj => ?_)
  obtain ⟨j, u, a⟩ := j
  obtain ⟨hj, hnd, hr, hne, ha⟩ : j ≤ l.length ∧ u.Nodup ∧ (∀ x ∈ u, 1 ≤ x ∧ x ≤ 9) ∧ (0 < j → u ≠ []) ∧ (a = none ↔ u.map u16P = []) := hj
  have hul := nodup_le 9 u hnd hr
  dsimp only [List.cons_append, List.nil_append]
  refine Ps.seq ?_
  refine Ps.region rfl ?_
  refine Rs.binB rfl rfl rfl rfl rfl rfl ?_
  refine Rs.nil ?_
  refine Ps.thn ?_
  refine Ps.seq ?_
  refine Ps.if rfl (fun hc => ?_) (fun hc => ?_)
  · try replace hc := dc hc
    refine Ps.skip ?_
    refine Ps.thn ?_
    refine Ps.seq ?_
    refine Ps.block ?_
    refine Ps.seq ?_
    have hlt : j < l.length := by simp at hc; omega
    obtain ⟨x, hx⟩ := at_lt hlt
    have hw1 := hw x (List.mem_of_getElem? hx)
    refine Ps.region rfl ?_
    first | refine Rs.indexD (lc := [_]) rfl rfl rfl rfl rfl rfl (map_at hx) rfl ?_ | refine Rs.indexS (lc := [_]) rfl rfl rfl rfl rfl (by assumption) rfl (map_at hx) rfl ?_
    first | refine Rs.loadR rfl rfl rfl rfl ?_ | refine Rs.loadP 0 rfl rfl rfl rfl rfl ?_ | refine Rs.loadP 1 rfl rfl rfl rfl rfl ?_ | refine Rs.loadP 2 rfl rfl rfl rfl rfl ?_ | refine Rs.loadP 3 rfl rfl rfl rfl rfl ?_
    refine Rs.assign rfl rfl ?_
    refine Rs.nil ?_
    refine Ps.thn ?_
    refine Ps.seq ?_
    refine Ps.region rfl ?_
    refine Rs.move rfl rfl ?_
    refine Rs.rem rfl rfl rfl (by omega) (by first | exact Int.tmod_eq_emod_of_nonneg (by omega) | rfl) ?_
    refine Rs.add rfl rfl rfl (by first | exact W_u16 (by omega) (by omega) | rfl) ?_
    refine Rs.assign rfl rfl ?_
    refine Rs.nil ?_
    refine Ps.thn ?_
    refine Ps.seq ?_
    refine Ps.region rfl ?_
    refine Rs.move rfl rfl ?_
    refine Rs.move rfl rfl ?_
    refine Rs.call1 rfl rfl rfl (fun H hH => DpL.top (n := 98000) (by repeat' first | exact DpL.nil | apply DpL.cons (Dp.plain _ rfl rfl) | apply DpL.cons (Dp.sl _ (by assumption)) | apply DpL.cons (Dp.up (Dp.g (by assumption) hH (fun x hx => by first | (simp [hx]; done) | exact List.mem_cons_of_mem _ (List.mem_append_left _ hx) | exact List.mem_cons_of_mem _ (List.mem_cons_of_mem _ (List.mem_append_left _ hx)) | exact List.mem_append_left _ hx) (by intro p hp; obtain ⟨x, _, rfl⟩ := List.mem_map.1 hp; rfl) (by simp; omega)) rfl) | apply DpL.cons (Dp.agg (n := 96000) ?_ rfl)) rfl) (contains16 u _ _ (slP_is _ _) (by omega)) (by first | (intro p hp; rw [hp]; rfl) | (rintro p ⟨r, rfl, _⟩; rfl)) (fun p17 hp => ?_)
    obtain rfl := hp
    refine Rs.not rfl rfl ?_
    refine Rs.nil ?_
    refine Ps.thn ?_
    refine Ps.if rfl (fun hc => ?_) (fun hc => ?_)
    · try replace hc := dc hc
      refine Ps.region rfl ?_
      refine Rs.move rfl rfl ?_
      refine Rs.move rfl rfl ?_
      refine Rs.buildSlice (l := [_]) rfl rfl rfl rfl (by first | rfl | simp [deepL, deepB, *]) ?_
      first | refine Rs.append0 1 2 rfl rfl ⟨_, rfl⟩ rfl rfl rfl rfl rfl rfl rfl rfl rfl rfl (by assumption) rfl (by first | rfl | simp [scalarsE, scalars, PV.cells, sc_int, sc_str, sc_bool, sc_nil, sc_dsl, *]) (by simp; omega) (fun a22 ha22 => ?_) | refine Rs.append1 1 2 rfl rfl ⟨_, rfl⟩ rfl rfl rfl rfl rfl rfl rfl rfl rfl rfl (by assumption) rfl (by first | rfl | simp [scalarsE, scalars, PV.cells, sc_int, sc_str, sc_bool, sc_nil, sc_dsl, *]) (by simp; omega) (fun a22 ha22 => ?_) | refine Rs.append2 1 2 rfl rfl ⟨_, rfl⟩ rfl rfl rfl rfl rfl rfl rfl rfl rfl rfl (by assumption) rfl (by first | rfl | simp [scalarsE, scalars, PV.cells, sc_int, sc_str, sc_bool, sc_nil, sc_dsl, *]) (by simp; omega) (fun a22 ha22 => ?_) | refine Rs.append3 1 2 rfl rfl ⟨_, rfl⟩ rfl rfl rfl rfl rfl rfl rfl rfl rfl rfl (by assumption) rfl (by first | rfl | simp [scalarsE, scalars, PV.cells, sc_int, sc_str, sc_bool, sc_nil, sc_dsl, *]) (by simp; omega) (fun a22 ha22 => ?_)
      refine Rs.assign rfl rfl ?_
      refine Rs.nil ?_
      refine Ps.blk ?_
      refine Ps.thn ?_
      refine Ps.region rfl ?_
      refine Rs.add rfl rfl rfl (by first | exact W_i64s (by omega) | exact W_i64 (by omega) (by omega) | rfl) ?_
      refine Rs.move rfl rfl ?_
      refine Rs.nil ?_
      -- leaf 1 (round1)
      first
        | (rw [show List.map u16P u ++ [u16P (1 + x % 9)] = List.map u16P (u ++ [1 + x % 9]) by simp] at ha22 ⊢
           refine Ps.round (j + 1, u ++ [1 + x % 9], a22) ⟨hlt, ?_, ?_, by simp, ha22⟩ (by show l.length - (j + 1) < l.length - j; omega) ⟨rfl, rfl, trivial⟩ (by repeat' first | exact HasL.nil | refine HasL.cons rfl ?_) (by repeat' first | exact List.Sublist.refl _ | exact List.nil_sublist _ | exact List.sublist_append_left _ _ | refine List.Sublist.cons_cons _ ?_ | refine List.Sublist.cons _ ?_)
           · refine List.nodup_append.2 ⟨hnd, by simp, fun z hz b hb => ?_⟩
             rw [List.mem_singleton.1 hb]
             intro e
             rw [e] at hz
             exact hc hz
           · intro z hz
             rcases List.mem_append.1 hz with hz | hz
             · exact hr z hz
             · rw [List.mem_singleton.1 hz]; omega)
        | (exact Ps.round (j + 1, u, a) ⟨hlt, hnd, hr, fun _ e => by subst e; simp at hc, ha⟩ (by show l.length - (j + 1) < l.length - j; omega) ⟨rfl, rfl, trivial⟩ (by repeat' first | exact HasL.nil | refine HasL.cons rfl ?_) (by repeat' first | exact List.Sublist.refl _ | exact List.nil_sublist _ | exact List.sublist_append_left _ _ | refine List.Sublist.cons_cons _ ?_ | refine List.Sublist.cons _ ?_))
    · try replace hc := dc hc
      refine Ps.skip ?_
      refine Ps.blk ?_
      refine Ps.thn ?_
      refine Ps.region rfl ?_
      refine Rs.add rfl rfl rfl (by first | exact W_i64s (by omega) | exact W_i64 (by omega) (by omega) | rfl) ?_
      refine Rs.move rfl rfl ?_
      refine Rs.nil ?_
      -- leaf 2 (round1)
      first
        | (rw [show List.map u16P u ++ [u16P (1 + x % 9)] = List.map u16P (u ++ [1 + x % 9]) by simp] at ha22 ⊢
           refine Ps.round (j + 1, u ++ [1 + x % 9], a22) ⟨hlt, ?_, ?_, by simp, ha22⟩ (by show l.length - (j + 1) < l.length - j; omega) ⟨rfl, rfl, trivial⟩ (by repeat' first | exact HasL.nil | refine HasL.cons rfl ?_) (by repeat' first | exact List.Sublist.refl _ | exact List.nil_sublist _ | exact List.sublist_append_left _ _ | refine List.Sublist.cons_cons _ ?_ | refine List.Sublist.cons _ ?_)
           · refine List.nodup_append.2 ⟨hnd, by simp, fun z hz b hb => ?_⟩
             rw [List.mem_singleton.1 hb]
             intro e
             rw [e] at hz
             exact hc hz
           · intro z hz
             rcases List.mem_append.1 hz with hz | hz
             · exact hr z hz
             · rw [List.mem_singleton.1 hz]; omega)
        | (exact Ps.round (j + 1, u, a) ⟨hlt, hnd, hr, fun _ e => by subst e; simp at hc, ha⟩ (by show l.length - (j + 1) < l.length - j; omega) ⟨rfl, rfl, trivial⟩ (by repeat' first | exact HasL.nil | refine HasL.cons rfl ?_) (by repeat' first | exact List.Sublist.refl _ | exact List.nil_sublist _ | exact List.sublist_append_left _ _ | refine List.Sublist.cons_cons _ ?_ | refine List.Sublist.cons _ ?_))
  · try replace hc := dc hc
    refine Ps.exit ?_
    refine Ps.thn_exit ?_
    refine Ps.rnd_exit ?_
    refine Ps.blk_here ?_
    refine Ps.thn ?_
    refine Ps.seq ?_
    refine Ps.region rfl ?_
    refine Rs.move rfl rfl ?_
    refine Rs.call2 rfl rfl rfl (sortG u a [] (by omega) ha) (fun p25 M25 hp25 => ?_)
    obtain ⟨u', hP, hS, rfl⟩ := hp25
    rw [gP_len (s := 1) (a := a) (l := u.map u16P) (l' := u'.map u16P) (by simp [hP.length_eq])]
    have ha' : a = none ↔ u'.map u16P = [] := by rw [ha]; simp; exact ⟨fun e => by subst e; exact hP.eq_nil, fun e => by subst e; exact hP.nil_eq.symm⟩
    have hul' : u'.length ≤ 9 := by rw [hP.length_eq]; exact hul
    refine Rs.nil ?_
    refine Ps.thn ?_
    refine Ps.seq ?_
    refine Ps.region rfl ?_
    refine Rs.move rfl rfl ?_
    refine Rs.assign rfl rfl ?_
    refine Rs.nil ?_
    refine Ps.thn ?_
    refine Ps.ret ?_
    -- leaf 3 (ret)
    refine Ps.finG (a := a) rfl (.tmp rfl .nil) ha' (by repeat' first | exact List.Sublist.refl _ | exact List.nil_sublist _ | exact List.sublist_append_left _ _ | refine List.Sublist.cons_cons _ ?_ | refine List.Sublist.cons _ ?_) (by intro q hq; obtain ⟨z, _, rfl⟩ := List.mem_map.1 hq; rfl) (by simp; omega) ⟨u', madeU_of hnd hr hP hS, fun h e => ?_, rfl⟩
    subst e
    have : 0 < j := by have := List.length_pos_iff.2 h; simp at hc; omega
    exact hne this hP.nil_eq.symm
end Go.Proofs.YtddaogebacigbaaGreatDoor.RV.T
end
section
open Go Go.Proofs.YtddaogebacigbaaGreatDoor.RV Go.Proofs.YtddaogebacigbaaGreatDoor.XA.Awk Go.Proofs.YtddaogebacigbaaGreatDoor.RV.ChartMath Go.Proofs
namespace Go.Proofs.YtddaogebacigbaaGreatDoor.RV.T
set_option maxRecDepth 100000
set_option linter.unusedVariables false
set_option linter.unusedSimpArgs false
variable {spc : Sp}
structure MadeC (a : Int) (s : List Int) (e : Int) : Prop where
  si : SI s
  len : 1 ≤ s.length ∧ s.length ≤ 13
  first : s[0]? = some a
  low : ∀ x ∈ s, a ≤ x ∧ x ≤ a + 480 ∧ x + 31 ≤ e
  end_ : e ≤ a + 511
theorem make08_ok (a : Int) (l : List Int) (p : PV) (hp : IsSl 1 (l.map u8P) p) (hl : l.length < 1000000) (ha : -32768 ≤ a ∧ a ≤ 32767) (hw : ∀ x ∈ l, 0 ≤ x ∧ x ≤ 255) : Fn (cfg spc) 51 [i16P a, p] (fun q => ∃ s e r, MadeC a s e ∧ IsSl 1 (s.map i32P) r ∧ q = .agg [r, i32P e]) := by
  refine Fn.go Tryz.func51 (L := [(0, _), (1, _)]) rfl rfl rfl (by simp [deepL, hp.deep, deepB]) rfl ?_
  refine Ps.seq ?_
  refine Ps.region rfl ?_
  refine Rs.alloc (z := .agg [_, _]) (c := 2) rfl rfl rfl (fun g4 => ?_)
  refine Rs.nil ?_
  refine Ps.thn ?_
  refine Ps.seq ?_
  refine Ps.region rfl ?_
  refine Rs.move rfl rfl ?_
  refine Rs.convI rfl rfl ⟨_, rfl⟩ rfl rfl (by first | exact W_i32 (by omega) (by omega) | rfl) ?_
  refine Rs.assign rfl rfl ?_
  refine Rs.nil ?_
  refine Ps.thn ?_
  refine Ps.seq ?_
  refine Ps.region rfl ?_
  refine Rs.move rfl rfl ?_
  refine Rs.buildSlice (l := [_]) rfl rfl rfl rfl (by first | rfl | simp [deepL, deepB, *]) ?_
  refine Rs.buildB (cs := [(0, [_])]) (l := [_, _]) rfl rfl (by first | rfl | simp only [cellsOf]; rfl) rfl ?_
  refine Rs.alloc (z := .agg [_, _]) (c := 2) rfl rfl rfl (fun g6 => ?_)
  first | refine Rs.store0 (l' := [.agg [_, _]]) rfl rfl rfl (by first | rfl | exact storeB_ag rfl rfl rfl (by simp [scalars, sc_int, sc_str, sc_bool, sc_nil, sc_dsl, sc_own, sc_g, sc_f, *]) | exact storeB_fld rfl (by first | assumption | exact cl_g | exact cl_f) (by first | assumption | exact sc_g | exact sc_f) rfl) ?_ | refine Rs.store1 (l' := [.agg [_, _]]) rfl rfl rfl (by first | rfl | exact storeB_ag rfl rfl rfl (by simp [scalars, sc_int, sc_str, sc_bool, sc_nil, sc_dsl, sc_own, sc_g, sc_f, *]) | exact storeB_fld rfl (by first | assumption | exact cl_g | exact cl_f) (by first | assumption | exact sc_g | exact sc_f) rfl) ?_ | refine Rs.store2 (l' := [.agg [_, _]]) rfl rfl rfl (by first | rfl | exact storeB_ag rfl rfl rfl (by simp [scalars, sc_int, sc_str, sc_bool, sc_nil, sc_dsl, sc_own, sc_g, sc_f, *]) | exact storeB_fld rfl (by first | assumption | exact cl_g | exact cl_f) (by first | assumption | exact sc_g | exact sc_f) rfl) ?_ | refine Rs.store3 (l' := [.agg [_, _]]) rfl rfl rfl (by first | rfl | exact storeB_ag rfl rfl rfl (by simp [scalars, sc_int, sc_str, sc_bool, sc_nil, sc_dsl, sc_own, sc_g, sc_f, *]) | exact storeB_fld rfl (by first | assumption | exact cl_g | exact cl_f) (by first | assumption | exact sc_g | exact sc_f) rfl) ?_
  refine Rs.nil ?_
  refine Ps.thn ?_
  refine Ps.seq ?_
  refine Ps.seq ?_
  refine Ps.region rfl ?_
  refine Rs.move rfl rfl ?_
  first | refine Rs.lenD rfl rfl rfl rfl ?_ | refine Rs.lenO rfl rfl rfl rfl ?_ | refine Rs.lenI rfl rfl rfl rfl ?_ | refine Rs.lenA rfl rfl rfl rfl (by assumption) ?_ | refine Rs.lenS rfl rfl rfl rfl (by assumption) ?_
  refine Rs.move (p := .lit _) rfl rfl ?_
  refine Rs.nil ?_
  refine Ps.thn ?_
  refine Ps.block ?_
  -- loop 1 writes [5, 7, 8, 16, 17, 18, 19, 20, 21, 22, 23, 24, 25, 26, 27, 28, 29, 30, 31, 32, 33, 34, 35]
  refine Ps.loop (J := Nat × List Int × Int × Option (Nat × Nat)) ⟨fun j => j.1 ≤ l.length ∧ j.1 ≤ 12 ∧ j.2.1.length = j.1 + 1 ∧ SI j.2.1 ∧ j.2.1[0]? = some a ∧ (∀ x ∈ j.2.1, a ≤ x ∧ x ≤ j.2.2.1) ∧ a ≤ j.2.2.1 ∧ j.2.2.1 ≤ a + 40 * j.1, fun j => [(5, i32P j.2.2.1), (16, i64P j.1)], fun j => (g6, 0, .blk 2 [.agg [fP 1 j.2.2.2 (j.2.1.map i32P), i32P 0]] true) :: (g4, 0, .blk 2 [.agg [nilP, i32P 0]] true) :: (fM 1 j.2.2.2 (j.2.1.map i32P) ++ []), fun j => l.length - j.1⟩ [5, 7, 8, 16, 17, 18, 19, 20, 21, 22, 23, 24, 25, 26, 27, 28, 29, 30, 31, 32, 33, 34, 35] [(15, _), (14, _), (6, _), (13, _), (12, _), (11, _), (10, _), (9, _), (4, _), (0, _), (1, _)] (0, [a], a, none) rfl ⟨Nat.zero_le _, Nat.zero_le _, rfl, List.pairwise_singleton _ _, rfl, by simp, by simp, by simp⟩ ⟨rfl, rfl, trivial⟩ (List.Sublist.refl _) (fun j hj => ?_)
  obtain ⟨j, s, d, b⟩ := j
  obtain ⟨hj, h12, hsl, hsi, hs0, hsb, hd0, hd1⟩ : j ≤ l.length ∧ j ≤ 12 ∧ s.length = j + 1 ∧ SI s ∧ s[0]? = some a ∧ (∀ x ∈ s, a ≤ x ∧ x ≤ d) ∧ a ≤ d ∧ d ≤ a + 40 * j := hj
  dsimp only [List.cons_append, List.nil_append]
  refine Ps.seq ?_
  refine Ps.region rfl ?_
  refine Rs.binB rfl rfl rfl rfl rfl rfl ?_
  refine Rs.nil ?_
  refine Ps.thn ?_
  refine Ps.seq ?_
  refine Ps.if rfl (fun hc => ?_) (fun hc => ?_)
  · try replace hc := dc hc
    refine Ps.skip ?_
    refine Ps.thn ?_
    refine Ps.seq ?_
    refine Ps.block ?_
    refine Ps.seq ?_
    have hlt : j < l.length := by simp at hc; omega
    obtain ⟨x, hx⟩ := at_lt hlt
    have hw1 := hw x (List.mem_of_getElem? hx)
    refine Ps.region rfl ?_
    refine Rs.move rfl rfl ?_
    first | refine Rs.indexD (lc := [_]) rfl rfl rfl rfl rfl rfl (map_at hx) rfl ?_ | refine Rs.indexS (lc := [_]) rfl rfl rfl rfl rfl (by assumption) rfl (map_at hx) rfl ?_
    first | refine Rs.loadR rfl rfl rfl rfl ?_ | refine Rs.loadP 0 rfl rfl rfl rfl rfl ?_ | refine Rs.loadP 1 rfl rfl rfl rfl rfl ?_ | refine Rs.loadP 2 rfl rfl rfl rfl rfl ?_ | refine Rs.loadP 3 rfl rfl rfl rfl rfl ?_
    refine Rs.assign rfl rfl ?_
    refine Rs.assign rfl rfl ?_
    refine Rs.nil ?_
    refine Ps.thn ?_
    refine Ps.seq ?_
    refine Ps.seq ?_
    refine Ps.region rfl ?_
    refine Rs.move rfl rfl ?_
    refine Rs.binB rfl rfl rfl rfl rfl rfl ?_
    refine Rs.nil ?_
    refine Ps.thn ?_
    refine Ps.if rfl (fun hc => ?_) (fun hc => ?_)
    · try replace hc := dc hc
      refine Ps.exit ?_
      refine Ps.thn_exit ?_
      refine Ps.blk_there rfl ?_
      refine Ps.thn_exit ?_
      refine Ps.rnd_exit ?_
      refine Ps.blk_here ?_
      refine Ps.thn ?_
      refine Ps.seq ?_
      refine Ps.region rfl ?_
      refine Rs.move rfl rfl ?_
      refine Rs.add rfl rfl rfl (by first | exact W_i32 (by omega) (by omega) | rfl) ?_
      first | refine Rs.fieldAddrD (off' := 1) rfl rfl rfl rfl ?_ | refine Rs.fieldAddrP (off' := 1) rfl rfl rfl rfl ?_
      first | refine Rs.store0 (l' := [.agg [_, _]]) rfl rfl rfl (by first | rfl | exact storeB_ag rfl rfl rfl (by simp [scalars, sc_int, sc_str, sc_bool, sc_nil, sc_dsl, sc_own, sc_g, sc_f, *]) | exact storeB_fld rfl (by first | assumption | exact cl_g | exact cl_f) (by first | assumption | exact sc_g | exact sc_f) rfl) ?_ | refine Rs.store1 (l' := [.agg [_, _]]) rfl rfl rfl (by first | rfl | exact storeB_ag rfl rfl rfl (by simp [scalars, sc_int, sc_str, sc_bool, sc_nil, sc_dsl, sc_own, sc_g, sc_f, *]) | exact storeB_fld rfl (by first | assumption | exact cl_g | exact cl_f) (by first | assumption | exact sc_g | exact sc_f) rfl) ?_ | refine Rs.store2 (l' := [.agg [_, _]]) rfl rfl rfl (by first | rfl | exact storeB_ag rfl rfl rfl (by simp [scalars, sc_int, sc_str, sc_bool, sc_nil, sc_dsl, sc_own, sc_g, sc_f, *]) | exact storeB_fld rfl (by first | assumption | exact cl_g | exact cl_f) (by first | assumption | exact sc_g | exact sc_f) rfl) ?_ | refine Rs.store3 (l' := [.agg [_, _]]) rfl rfl rfl (by first | rfl | exact storeB_ag rfl rfl rfl (by simp [scalars, sc_int, sc_str, sc_bool, sc_nil, sc_dsl, sc_own, sc_g, sc_f, *]) | exact storeB_fld rfl (by first | assumption | exact cl_g | exact cl_f) (by first | assumption | exact sc_g | exact sc_f) rfl) ?_
      refine Rs.nil ?_
      refine Ps.thn ?_
      refine Ps.seq ?_
      refine Ps.region rfl ?_
      first | refine Rs.loadR (p := .agg [_, _]) rfl rfl rfl rfl ?_ | refine Rs.loadP (p := .agg [_, _]) 0 rfl rfl rfl rfl rfl ?_ | refine Rs.loadP (p := .agg [_, _]) 1 rfl rfl rfl rfl rfl ?_ | refine Rs.loadP (p := .agg [_, _]) 2 rfl rfl rfl rfl rfl ?_ | refine Rs.loadP (p := .agg [_, _]) 3 rfl rfl rfl rfl rfl ?_
      refine Rs.store1 (l' := [.agg [fP 1 b (s.map i32P), i32P (d + 31)]]) rfl rfl rfl (by cases b <;> rfl) ?_
      refine Rs.nil ?_
      refine Ps.thn ?_
      refine Ps.ret ?_
      -- leaf 1 (ret)
      refine Ps.finX (l := [_]) rfl (by (first | refine ResR.cell (p := .agg [_, _]) 0 rfl rfl rfl ?_ | refine ResR.cell (p := .agg [_, _]) 1 rfl rfl rfl ?_ | refine ResR.cell (p := .agg [_, _]) 2 rfl rfl rfl ?_ | refine ResR.cell (p := .agg [_, _]) 3 rfl rfl rfl ?_); exact ResR.nil) (fun H hH => ?_)
      obtain ⟨q, hq, hd⟩ := Dp.f (s := 1) (a := b) (l := s.map i32P) hH (fun x hx => by simp [hx]) (by intro p hp; obtain ⟨x, _, rfl⟩ := List.mem_map.1 hp; rfl) (by simp; omega)
      refine ⟨_, (Dp.agg (DpL.cons hd (DpL.cons (Dp.plain 95000 rfl rfl) DpL.nil)) (m := 96000) rfl).top rfl, s, d + 31, q, ⟨hsi, by omega, hs0, fun x hx => ?_, by omega⟩, hq, rfl⟩
      have := hsb x hx
      omega
    · try replace hc := dc hc
      refine Ps.skip ?_
      refine Ps.thn ?_
      refine Ps.seq ?_
      refine Ps.region rfl ?_
      refine Rs.move rfl rfl ?_
      refine Rs.move rfl rfl ?_
      refine Rs.rem rfl rfl rfl (by omega) (by first | exact Int.tmod_eq_emod_of_nonneg (by omega) | rfl) ?_
      refine Rs.convI rfl rfl ⟨_, rfl⟩ rfl rfl (by first | exact W_i32 (by omega) (by omega) | rfl) ?_
      refine Rs.add rfl rfl rfl (by first | exact W_i32 (by omega) (by omega) | rfl) ?_
      refine Rs.add rfl rfl rfl (by first | exact W_i32 (by omega) (by omega) | rfl) ?_
      refine Rs.assign rfl rfl ?_
      refine Rs.nil ?_
      refine Ps.thn ?_
      refine Ps.region rfl ?_
      first | refine Rs.fieldAddrD (off' := 0) rfl rfl rfl rfl ?_ | refine Rs.fieldAddrP (off' := 0) rfl rfl rfl rfl ?_
      first | refine Rs.loadR rfl rfl rfl rfl ?_ | refine Rs.loadP 0 rfl rfl rfl rfl rfl ?_ | refine Rs.loadP 1 rfl rfl rfl rfl rfl ?_ | refine Rs.loadP 2 rfl rfl rfl rfl rfl ?_ | refine Rs.loadP 3 rfl rfl rfl rfl rfl ?_
      refine Rs.move rfl rfl ?_
      refine Rs.buildSlice (l := [_]) rfl rfl rfl rfl (by first | rfl | simp [deepL, deepB, *]) ?_
      refine Rs.appendF2 1 4 rfl rfl ⟨_, rfl⟩ rfl rfl rfl rfl rfl rfl rfl rfl rfl rfl rfl rfl (by simp; omega) (fun id v => ?_)
      first | refine Rs.fieldAddrD (off' := 0) rfl rfl rfl rfl ?_ | refine Rs.fieldAddrP (off' := 0) rfl rfl rfl rfl ?_
      first | refine Rs.store0 (l' := [.agg [_, _]]) rfl rfl rfl (by first | rfl | exact storeB_ag rfl rfl rfl (by simp [scalars, sc_int, sc_str, sc_bool, sc_nil, sc_dsl, sc_own, sc_g, sc_f, *]) | exact storeB_fld rfl (by first | assumption | exact cl_g | exact cl_f) (by first | assumption | exact sc_g | exact sc_f) rfl) ?_ | refine Rs.store1 (l' := [.agg [_, _]]) rfl rfl rfl (by first | rfl | exact storeB_ag rfl rfl rfl (by simp [scalars, sc_int, sc_str, sc_bool, sc_nil, sc_dsl, sc_own, sc_g, sc_f, *]) | exact storeB_fld rfl (by first | assumption | exact cl_g | exact cl_f) (by first | assumption | exact sc_g | exact sc_f) rfl) ?_ | refine Rs.store2 (l' := [.agg [_, _]]) rfl rfl rfl (by first | rfl | exact storeB_ag rfl rfl rfl (by simp [scalars, sc_int, sc_str, sc_bool, sc_nil, sc_dsl, sc_own, sc_g, sc_f, *]) | exact storeB_fld rfl (by first | assumption | exact cl_g | exact cl_f) (by first | assumption | exact sc_g | exact sc_f) rfl) ?_ | refine Rs.store3 (l' := [.agg [_, _]]) rfl rfl rfl (by first | rfl | exact storeB_ag rfl rfl rfl (by simp [scalars, sc_int, sc_str, sc_bool, sc_nil, sc_dsl, sc_own, sc_g, sc_f, *]) | exact storeB_fld rfl (by first | assumption | exact cl_g | exact cl_f) (by first | assumption | exact sc_g | exact sc_f) rfl) ?_
      refine Rs.nil ?_
      refine Ps.blk ?_
      refine Ps.thn ?_
      refine Ps.region rfl ?_
      refine Rs.add rfl rfl rfl (by first | exact W_i64s (by omega) | exact W_i64 (by omega) (by omega) | rfl) ?_
      refine Rs.move rfl rfl ?_
      refine Rs.nil ?_
      -- leaf 2 (round1)
      have hs' : s ≠ [] := by intro e; subst e; simp at hsl
      rw [show List.map i32P s ++ [PV.lit (Value.int IntKind.i32 (d + (1 + x % 40)))] = List.map i32P (s ++ [d + (1 + x % 40)]) by simp]
      refine Ps.round (j + 1, s ++ [d + (1 + x % 40)], d + (1 + x % 40), some (id, v)) ⟨hlt, ?_, by simp [hsl], ?_, ?_, ?_, ?_, ?_⟩ (by show l.length - (j + 1) < l.length - j; omega) ⟨rfl, rfl, trivial⟩ (by repeat' first | exact HasL.nil | refine HasL.cons rfl ?_) (List.Sublist.refl _)
      · show j + 1 ≤ 12; omega
      · refine List.pairwise_append.2 ⟨hsi, List.pairwise_singleton _ _, fun z hz w hw => ?_⟩
        rw [List.mem_singleton.1 hw]
        have := hsb z hz
        omega
      · show (s ++ [d + (1 + x % 40)])[0]? = some a
        rw [List.getElem?_append_left (by omega)]
        exact hs0
      · intro z hz
        show a ≤ z ∧ z ≤ d + (1 + x % 40)
        rcases List.mem_append.1 hz with hz | hz
        · have := hsb z hz; omega
        · rw [List.mem_singleton.1 hz]; omega
      · show a ≤ d + (1 + x % 40); omega
      · show d + (1 + x % 40) ≤ a + 40 * ((j + 1 : Nat) : Int); omega
  · try replace hc := dc hc
    refine Ps.exit ?_
    refine Ps.thn_exit ?_
    refine Ps.rnd_exit ?_
    refine Ps.blk_here ?_
    refine Ps.thn ?_
    refine Ps.seq ?_
    refine Ps.region rfl ?_
    refine Rs.move rfl rfl ?_
    refine Rs.add rfl rfl rfl (by first | exact W_i32 (by omega) (by omega) | rfl) ?_
    first | refine Rs.fieldAddrD (off' := 1) rfl rfl rfl rfl ?_ | refine Rs.fieldAddrP (off' := 1) rfl rfl rfl rfl ?_
    first | refine Rs.store0 (l' := [.agg [_, _]]) rfl rfl rfl (by first | rfl | exact storeB_ag rfl rfl rfl (by simp [scalars, sc_int, sc_str, sc_bool, sc_nil, sc_dsl, sc_own, sc_g, sc_f, *]) | exact storeB_fld rfl (by first | assumption | exact cl_g | exact cl_f) (by first | assumption | exact sc_g | exact sc_f) rfl) ?_ | refine Rs.store1 (l' := [.agg [_, _]]) rfl rfl rfl (by first | rfl | exact storeB_ag rfl rfl rfl (by simp [scalars, sc_int, sc_str, sc_bool, sc_nil, sc_dsl, sc_own, sc_g, sc_f, *]) | exact storeB_fld rfl (by first | assumption | exact cl_g | exact cl_f) (by first | assumption | exact sc_g | exact sc_f) rfl) ?_ | refine Rs.store2 (l' := [.agg [_, _]]) rfl rfl rfl (by first | rfl | exact storeB_ag rfl rfl rfl (by simp [scalars, sc_int, sc_str, sc_bool, sc_nil, sc_dsl, sc_own, sc_g, sc_f, *]) | exact storeB_fld rfl (by first | assumption | exact cl_g | exact cl_f) (by first | assumption | exact sc_g | exact sc_f) rfl) ?_ | refine Rs.store3 (l' := [.agg [_, _]]) rfl rfl rfl (by first | rfl | exact storeB_ag rfl rfl rfl (by simp [scalars, sc_int, sc_str, sc_bool, sc_nil, sc_dsl, sc_own, sc_g, sc_f, *]) | exact storeB_fld rfl (by first | assumption | exact cl_g | exact cl_f) (by first | assumption | exact sc_g | exact sc_f) rfl) ?_
    refine Rs.nil ?_
    refine Ps.thn ?_
    refine Ps.seq ?_
    refine Ps.region rfl ?_
    first | refine Rs.loadR (p := .agg [_, _]) rfl rfl rfl rfl ?_ | refine Rs.loadP (p := .agg [_, _]) 0 rfl rfl rfl rfl rfl ?_ | refine Rs.loadP (p := .agg [_, _]) 1 rfl rfl rfl rfl rfl ?_ | refine Rs.loadP (p := .agg [_, _]) 2 rfl rfl rfl rfl rfl ?_ | refine Rs.loadP (p := .agg [_, _]) 3 rfl rfl rfl rfl rfl ?_
    refine Rs.store1 (l' := [.agg [fP 1 b (s.map i32P), i32P (d + 31)]]) rfl rfl rfl (by cases b <;> rfl) ?_
    refine Rs.nil ?_
    refine Ps.thn ?_
    refine Ps.ret ?_
    -- leaf 3 (ret)
    refine Ps.finX (l := [_]) rfl (by (first | refine ResR.cell (p := .agg [_, _]) 0 rfl rfl rfl ?_ | refine ResR.cell (p := .agg [_, _]) 1 rfl rfl rfl ?_ | refine ResR.cell (p := .agg [_, _]) 2 rfl rfl rfl ?_ | refine ResR.cell (p := .agg [_, _]) 3 rfl rfl rfl ?_); exact ResR.nil) (fun H hH => ?_)
    obtain ⟨q, hq, hd⟩ := Dp.f (s := 1) (a := b) (l := s.map i32P) hH (fun x hx => by simp [hx]) (by intro p hp; obtain ⟨x, _, rfl⟩ := List.mem_map.1 hp; rfl) (by simp; omega)
    refine ⟨_, (Dp.agg (DpL.cons hd (DpL.cons (Dp.plain 95000 rfl rfl) DpL.nil)) (m := 96000) rfl).top rfl, s, d + 31, q, ⟨hsi, by omega, hs0, fun x hx => ?_, by omega⟩, hq, rfl⟩
    have := hsb x hx
    omega
end Go.Proofs.YtddaogebacigbaaGreatDoor.RV.T
end
section
open Go Go.Proofs.YtddaogebacigbaaGreatDoor.RV Go.Proofs.YtddaogebacigbaaGreatDoor.XA.Awk Go.Proofs.YtddaogebacigbaaGreatDoor.RV.ChartMath Go.Proofs
namespace Go.Proofs.YtddaogebacigbaaGreatDoor.RV.T
set_option maxRecDepth 100000
set_option linter.unusedVariables false
set_option linter.unusedSimpArgs false
variable {spc : Sp}
structure LV where
  acc : Int
  ent : Int
  ctr : Int
  amt : Int
def lvP (x : LV) : PV := .agg [u8P x.acc, u8P x.ent, u8P x.ctr, i64P x.amt]
structure JV where
  later : Int
  lines : List LV
def jvP (j : JV) : PV := .agg [u8P j.later, .dsl 4 (j.lines.map lvP) none]
structure BV where
  chart : List Src
  units : List Int
  first : Int
  long : List Int
  js : List JV
def bvP (x : BV) : PV := .agg [.dsl 4 (x.chart.map srcP) none, .dsl 1 (x.units.map u16P) none, i16P x.first, .dsl 1 (x.long.map u8P) none, .dsl 2 (x.js.map jvP) none]
def LvOk (x : LV) : Prop := (0 ≤ x.acc ∧ x.acc ≤ 255) ∧ (0 ≤ x.ent ∧ x.ent ≤ 255) ∧ (0 ≤ x.ctr ∧ x.ctr ≤ 255) ∧ -9223372036854775808 ≤ x.amt ∧ x.amt ≤ 9223372036854775807
structure BvOk (x : BV) : Prop where
  src : ∀ y ∈ x.chart, SrcOk y
  un : ∀ y ∈ x.units, 0 ≤ y ∧ y ≤ 65535
  first : -32768 ≤ x.first ∧ x.first ≤ 32767
  long : ∀ y ∈ x.long, 0 ≤ y ∧ y ≤ 255
  js : ∀ j ∈ x.js, (0 ≤ j.later ∧ j.later ≤ 255) ∧ ∀ y ∈ j.lines, LvOk y
structure LightOk (x : BV) : Prop where
  chart : x.chart.length ≤ 20
  units : x.units.length ≤ 8
  long : x.long.length ≤ 8
  js : x.js.length ≤ 12
  lines : ∀ j ∈ x.js, j.lines.length ≤ 8
theorem light_ok (x : BV) (hl : x.js.length < 9223372036854775807) : Fn (cfg spc) 23 [bvP x] (fun q => ∃ b, q = boolP b ∧ (b = true → LightOk x)) := by
  refine Fn.go Tryz.func23 (L := [(0, _)]) rfl rfl rfl (by first | rfl | (simp [deepL, deepB, *]; done) | (simp [deepL, deepB, *]; rfl)) rfl ?_
  refine Ps.seq ?_
  refine Ps.region rfl ?_
  refine Rs.box (l := [_, _, _, _, _]) rfl rfl rfl (by first | rfl | simp [deepB, deepL, *]) rfl ?_
  refine Rs.assign (p := .lit _) rfl rfl ?_
  refine Rs.nil ?_
  refine Ps.thn ?_
  refine Ps.seq ?_
  refine Ps.seq ?_
  refine Ps.region rfl ?_
  first | refine Rs.fieldAddrD (off' := 4) rfl rfl rfl rfl ?_ | refine Rs.fieldAddrP (off' := 4) rfl rfl rfl rfl ?_
  refine Rs.loadD rfl rfl rfl rfl ?_
  first | refine Rs.lenD rfl rfl rfl rfl ?_ | refine Rs.lenO rfl rfl rfl rfl ?_ | refine Rs.lenI rfl rfl rfl rfl ?_ | refine Rs.lenA rfl rfl rfl rfl (by assumption) ?_ | refine Rs.lenS rfl rfl rfl rfl (by assumption) ?_
  refine Rs.move (p := .lit _) rfl rfl ?_
  refine Rs.nil ?_
  refine Ps.thn ?_
  refine Ps.block ?_
  -- loop 1 writes [2, 4, 8, 9, 10, 11, 12, 13, 14, 15, 16]
  refine Ps.loop (J := Nat) ⟨fun j => j ≤ x.js.length ∧ ∀ y ∈ x.js.take j, y.lines.length ≤ 8, fun j => [(8, i64P j)], fun _ => [], fun j => x.js.length - j⟩ [2, 4, 8, 9, 10, 11, 12, 13, 14, 15, 16] [(7, _), (6, _), (5, _), (1, _), (0, _)] 0 rfl ⟨Nat.zero_le _, by simp⟩ ⟨rfl, trivial⟩ (List.nil_sublist _) (fun j hj => ?_)
  obtain ⟨hj, hjc⟩ : j ≤ x.js.length ∧ ∀ y ∈ x.js.take j, y.lines.length ≤ 8 := hj
  dsimp only [List.cons_append, List.nil_append]
  refine Ps.seq ?_
  refine Ps.region rfl ?_
  refine Rs.binB rfl rfl rfl rfl rfl rfl ?_
  refine Rs.nil ?_
  refine Ps.thn ?_
  refine Ps.seq ?_
  refine Ps.if rfl (fun hc => ?_) (fun hc => ?_)
  · try replace hc := dc hc
    refine Ps.skip ?_
    refine Ps.thn ?_
    refine Ps.seq ?_
    refine Ps.block ?_
    refine Ps.seq ?_
    have hlt : j < x.js.length := by simp at hc; omega
    obtain ⟨y, hy⟩ := at_lt hlt
    refine Ps.region rfl ?_
    first | refine Rs.indexD (lc := [_, _]) rfl rfl rfl rfl rfl rfl (map_at hy) rfl ?_ | refine Rs.indexS (lc := [_, _]) rfl rfl rfl rfl rfl (by assumption) rfl (map_at hy) rfl ?_
    first | refine Rs.loadR (p := .agg [_, _]) rfl rfl rfl rfl ?_ | refine Rs.loadP (p := .agg [_, _]) 0 rfl rfl rfl rfl rfl ?_ | refine Rs.loadP (p := .agg [_, _]) 1 rfl rfl rfl rfl rfl ?_ | refine Rs.loadP (p := .agg [_, _]) 2 rfl rfl rfl rfl rfl ?_ | refine Rs.loadP (p := .agg [_, _]) 3 rfl rfl rfl rfl rfl ?_
    refine Rs.alloc (z := .agg [_, _]) (c := 2) rfl rfl rfl (fun g4 => ?_)
    first | refine Rs.store0 (l' := [.agg [_, _]]) rfl rfl rfl (by first | rfl | exact storeB_ag rfl rfl rfl (by simp [scalars, sc_int, sc_str, sc_bool, sc_nil, sc_dsl, sc_own, sc_g, sc_f, *]) | exact storeB_fld rfl (by first | assumption | exact cl_g | exact cl_f) (by first | assumption | exact sc_g | exact sc_f) rfl) ?_ | refine Rs.store1 (l' := [.agg [_, _]]) rfl rfl rfl (by first | rfl | exact storeB_ag rfl rfl rfl (by simp [scalars, sc_int, sc_str, sc_bool, sc_nil, sc_dsl, sc_own, sc_g, sc_f, *]) | exact storeB_fld rfl (by first | assumption | exact cl_g | exact cl_f) (by first | assumption | exact sc_g | exact sc_f) rfl) ?_ | refine Rs.store2 (l' := [.agg [_, _]]) rfl rfl rfl (by first | rfl | exact storeB_ag rfl rfl rfl (by simp [scalars, sc_int, sc_str, sc_bool, sc_nil, sc_dsl, sc_own, sc_g, sc_f, *]) | exact storeB_fld rfl (by first | assumption | exact cl_g | exact cl_f) (by first | assumption | exact sc_g | exact sc_f) rfl) ?_ | refine Rs.store3 (l' := [.agg [_, _]]) rfl rfl rfl (by first | rfl | exact storeB_ag rfl rfl rfl (by simp [scalars, sc_int, sc_str, sc_bool, sc_nil, sc_dsl, sc_own, sc_g, sc_f, *]) | exact storeB_fld rfl (by first | assumption | exact cl_g | exact cl_f) (by first | assumption | exact sc_g | exact sc_f) rfl) ?_
    refine Rs.nil ?_
    refine Ps.thn ?_
    refine Ps.seq ?_
    refine Ps.region rfl ?_
    first | refine Rs.fieldAddrD (off' := 1) rfl rfl rfl rfl ?_ | refine Rs.fieldAddrP (off' := 1) rfl rfl rfl rfl ?_
    first | refine Rs.loadR rfl rfl rfl rfl ?_ | refine Rs.loadP 0 rfl rfl rfl rfl rfl ?_ | refine Rs.loadP 1 rfl rfl rfl rfl rfl ?_ | refine Rs.loadP 2 rfl rfl rfl rfl rfl ?_ | refine Rs.loadP 3 rfl rfl rfl rfl rfl ?_
    first | refine Rs.lenD rfl rfl rfl rfl ?_ | refine Rs.lenO rfl rfl rfl rfl ?_ | refine Rs.lenI rfl rfl rfl rfl ?_ | refine Rs.lenA rfl rfl rfl rfl (by assumption) ?_ | refine Rs.lenS rfl rfl rfl rfl (by assumption) ?_
    refine Rs.binB rfl rfl rfl rfl rfl rfl ?_
    refine Rs.nil ?_
    refine Ps.thn ?_
    refine Ps.if rfl (fun hc => ?_) (fun hc => ?_)
    · try replace hc := dc hc
      refine Ps.seq ?_
      refine Ps.region rfl ?_
      refine Rs.assign (p := .lit _) rfl rfl ?_
      refine Rs.nil ?_
      refine Ps.thn ?_
      refine Ps.ret ?_
      refine Ps.blk_ret ?_
      refine Ps.thn_ret ?_
      refine Ps.rnd_ret ?_
      refine Ps.blk_ret ?_
      refine Ps.thn_ret ?_
      -- leaf 1 (ret)
      refine Ps.finP (l := [_]) rfl (by refine ResR.tmp rfl ?_; exact ResR.nil) (by first | rfl | simp [plainP, plainC, cp_lit, cp_dsl, *]) rfl ?_
      first
        | exact ⟨false, rfl, fun h => by cases h⟩
        | (refine ⟨_, rfl, fun h => ⟨?_, ?_, ?_, ?_, ?_⟩⟩ <;> first
            | (simp at hg; omega)
            | omega
            | (simp at *; omega)
            | (intro z hz; exact hjc z (by rw [List.take_of_length_le (by simp at *; omega)]; exact hz)))
    · try replace hc := dc hc
      refine Ps.skip ?_
      refine Ps.blk ?_
      refine Ps.thn ?_
      refine Ps.region rfl ?_
      refine Rs.add rfl rfl rfl (by first | exact W_i64s (by omega) | exact W_i64 (by omega) (by omega) | rfl) ?_
      refine Rs.move rfl rfl ?_
      refine Rs.nil ?_
      -- leaf 2 (round1)
      refine Ps.round (j + 1) ⟨hlt, ?_⟩ (by show x.js.length - (j + 1) < x.js.length - j; omega) ⟨rfl, trivial⟩ (by repeat' first | exact HasL.nil | refine HasL.cons rfl ?_) (by repeat' first | exact List.Sublist.refl _ | exact List.nil_sublist _ | exact List.sublist_append_left _ _ | refine List.Sublist.cons_cons _ ?_ | refine List.Sublist.cons _ ?_)
      intro z hz
      rw [List.take_add_one, hy] at hz
      rcases List.mem_append.1 hz with hz | hz
      · exact hjc z hz
      · simp at hz; subst hz; simp at hc; omega
  · try replace hc := dc hc
    refine Ps.exit ?_
    refine Ps.thn_exit ?_
    refine Ps.rnd_exit ?_
    refine Ps.blk_here ?_
    refine Ps.thn ?_
    refine Ps.seq ?_
    refine Ps.region rfl ?_
    first | refine Rs.fieldAddrD (off' := 0) rfl rfl rfl rfl ?_ | refine Rs.fieldAddrP (off' := 0) rfl rfl rfl rfl ?_
    refine Rs.loadD rfl rfl rfl rfl ?_
    first | refine Rs.lenD rfl rfl rfl rfl ?_ | refine Rs.lenO rfl rfl rfl rfl ?_ | refine Rs.lenI rfl rfl rfl rfl ?_ | refine Rs.lenA rfl rfl rfl rfl (by assumption) ?_ | refine Rs.lenS rfl rfl rfl rfl (by assumption) ?_
    refine Rs.binB rfl rfl rfl rfl rfl rfl ?_
    refine Rs.move rfl rfl ?_
    refine Rs.guard1 (w' := false) rfl rfl rfl (fun hg => ?_) (fun hg => ?_)
    · try replace hg := dc hg
      first | refine Rs.fieldAddrD (off' := 1) rfl rfl rfl rfl ?_ | refine Rs.fieldAddrP (off' := 1) rfl rfl rfl rfl ?_
      refine Rs.guardT rfl ?_
      refine Rs.loadD rfl rfl rfl rfl ?_
      refine Rs.guardT rfl ?_
      first | refine Rs.lenD rfl rfl rfl rfl ?_ | refine Rs.lenO rfl rfl rfl rfl ?_ | refine Rs.lenI rfl rfl rfl rfl ?_ | refine Rs.lenA rfl rfl rfl rfl (by assumption) ?_ | refine Rs.lenS rfl rfl rfl rfl (by assumption) ?_
      refine Rs.guardT rfl ?_
      refine Rs.binB rfl rfl rfl rfl rfl rfl ?_
      refine Rs.pickT (q := .lit _) rfl rfl rfl rfl ?_
      refine Rs.move rfl rfl ?_
      refine Rs.guard1 (w' := false) rfl rfl rfl (fun hg => ?_) (fun hg => ?_)
      · try replace hg := dc hg
        first | refine Rs.fieldAddrD (off' := 3) rfl rfl rfl rfl ?_ | refine Rs.fieldAddrP (off' := 3) rfl rfl rfl rfl ?_
        refine Rs.guardT rfl ?_
        refine Rs.loadD rfl rfl rfl rfl ?_
        refine Rs.guardT rfl ?_
        first | refine Rs.lenD rfl rfl rfl rfl ?_ | refine Rs.lenO rfl rfl rfl rfl ?_ | refine Rs.lenI rfl rfl rfl rfl ?_ | refine Rs.lenA rfl rfl rfl rfl (by assumption) ?_ | refine Rs.lenS rfl rfl rfl rfl (by assumption) ?_
        refine Rs.guardT rfl ?_
        refine Rs.binB rfl rfl rfl rfl rfl rfl ?_
        refine Rs.pickT (q := .lit _) rfl rfl rfl rfl ?_
        refine Rs.move rfl rfl ?_
        refine Rs.guard1 (w' := false) rfl rfl rfl (fun hg => ?_) (fun hg => ?_)
        · try replace hg := dc hg
          first | refine Rs.fieldAddrD (off' := 4) rfl rfl rfl rfl ?_ | refine Rs.fieldAddrP (off' := 4) rfl rfl rfl rfl ?_
          refine Rs.guardT rfl ?_
          refine Rs.loadD rfl rfl rfl rfl ?_
          refine Rs.guardT rfl ?_
          first | refine Rs.lenD rfl rfl rfl rfl ?_ | refine Rs.lenO rfl rfl rfl rfl ?_ | refine Rs.lenI rfl rfl rfl rfl ?_ | refine Rs.lenA rfl rfl rfl rfl (by assumption) ?_ | refine Rs.lenS rfl rfl rfl rfl (by assumption) ?_
          refine Rs.guardT rfl ?_
          refine Rs.binB rfl rfl rfl rfl rfl rfl ?_
          refine Rs.pickT (q := .lit _) rfl rfl rfl rfl ?_
          refine Rs.assign rfl rfl ?_
          refine Rs.nil ?_
          refine Ps.thn ?_
          refine Ps.ret ?_
          -- leaf 3 (ret)
          refine Ps.finP (l := [_]) rfl (by refine ResR.tmp rfl ?_; exact ResR.nil) (by first | rfl | simp [plainP, plainC, cp_lit, cp_dsl, *]) rfl ?_
          first
            | exact ⟨false, rfl, fun h => by cases h⟩
            | (refine ⟨_, rfl, fun h => ⟨?_, ?_, ?_, ?_, ?_⟩⟩ <;> first
                | (simp at hg; omega)
                | omega
                | (simp at *; omega)
                | (intro z hz; exact hjc z (by rw [List.take_of_length_le (by simp at *; omega)]; exact hz)))
        · try replace hg := dc hg
          refine Rs.guardF1 rfl rfl rfl ?_
          refine Rs.guardF1 rfl rfl rfl ?_
          refine Rs.guardF1 rfl rfl rfl ?_
          refine Rs.pickF (q := .lit _) rfl rfl rfl rfl ?_
          refine Rs.assign rfl rfl ?_
          refine Rs.nil ?_
          refine Ps.thn ?_
          refine Ps.ret ?_
          -- leaf 4 (ret)
          refine Ps.finP (l := [_]) rfl (by refine ResR.tmp rfl ?_; exact ResR.nil) (by first | rfl | simp [plainP, plainC, cp_lit, cp_dsl, *]) rfl ?_
          first
            | exact ⟨false, rfl, fun h => by cases h⟩
            | (refine ⟨_, rfl, fun h => ⟨?_, ?_, ?_, ?_, ?_⟩⟩ <;> first
                | (simp at hg; omega)
                | omega
                | (simp at *; omega)
                | (intro z hz; exact hjc z (by rw [List.take_of_length_le (by simp at *; omega)]; exact hz)))
      · try replace hg := dc hg
        refine Rs.guardF1 rfl rfl rfl ?_
        refine Rs.guardF1 rfl rfl rfl ?_
        refine Rs.guardF1 rfl rfl rfl ?_
        refine Rs.pickF (q := .lit _) rfl rfl rfl rfl ?_
        refine Rs.move rfl rfl ?_
        refine Rs.guardF1 rfl rfl rfl ?_
        refine Rs.guardF1 rfl rfl rfl ?_
        refine Rs.guardF1 rfl rfl rfl ?_
        refine Rs.guardF1 rfl rfl rfl ?_
        refine Rs.pickF (q := .lit _) rfl rfl rfl rfl ?_
        refine Rs.assign rfl rfl ?_
        refine Rs.nil ?_
        refine Ps.thn ?_
        refine Ps.ret ?_
        -- leaf 5 (ret)
        refine Ps.finP (l := [_]) rfl (by refine ResR.tmp rfl ?_; exact ResR.nil) (by first | rfl | simp [plainP, plainC, cp_lit, cp_dsl, *]) rfl ?_
        first
          | exact ⟨false, rfl, fun h => by cases h⟩
          | (refine ⟨_, rfl, fun h => ⟨?_, ?_, ?_, ?_, ?_⟩⟩ <;> first
              | (simp at hg; omega)
              | omega
              | (simp at *; omega)
              | (intro z hz; exact hjc z (by rw [List.take_of_length_le (by simp at *; omega)]; exact hz)))
    · try replace hg := dc hg
      refine Rs.guardF1 rfl rfl rfl ?_
      refine Rs.guardF1 rfl rfl rfl ?_
      refine Rs.guardF1 rfl rfl rfl ?_
      refine Rs.pickF (q := .lit _) rfl rfl rfl rfl ?_
      refine Rs.move rfl rfl ?_
      refine Rs.guardF1 rfl rfl rfl ?_
      refine Rs.guardF1 rfl rfl rfl ?_
      refine Rs.guardF1 rfl rfl rfl ?_
      refine Rs.guardF1 rfl rfl rfl ?_
      refine Rs.pickF (q := .lit _) rfl rfl rfl rfl ?_
      refine Rs.move rfl rfl ?_
      refine Rs.guardF1 rfl rfl rfl ?_
      refine Rs.guardF1 rfl rfl rfl ?_
      refine Rs.guardF1 rfl rfl rfl ?_
      refine Rs.guardF1 rfl rfl rfl ?_
      refine Rs.pickF (q := .lit _) rfl rfl rfl rfl ?_
      refine Rs.assign rfl rfl ?_
      refine Rs.nil ?_
      refine Ps.thn ?_
      refine Ps.ret ?_
      -- leaf 6 (ret)
      refine Ps.finP (l := [_]) rfl (by refine ResR.tmp rfl ?_; exact ResR.nil) (by first | rfl | simp [plainP, plainC, cp_lit, cp_dsl, *]) rfl ?_
      first
        | exact ⟨false, rfl, fun h => by cases h⟩
        | (refine ⟨_, rfl, fun h => ⟨?_, ?_, ?_, ?_, ?_⟩⟩ <;> first
            | (simp at hg; omega)
            | omega
            | (simp at *; omega)
            | (intro z hz; exact hjc z (by rw [List.take_of_length_le (by simp at *; omega)]; exact hz)))
structure FrameOk (a : Int) (ch : List Acc) (un st : List Int) (en : Int) : Prop where
  chart : Made ch
  chSome : ch ≠ []
  un_ : MadeU un
  unSome : un ≠ []
  cal : MadeC a st en
theorem cash_ok : Made [⟨7, ⟨#[67, 97, 115, 104]⟩, 0, 0⟩] := Made.nil.snoc (x := ⟨7, ⟨#[67, 97, 115, 104]⟩, 0, 0⟩) (by decide) (by decide) (by simp) (.inl rfl) ⟨⟨0, by omega⟩, rfl⟩ (by decide) (by decide)
def IsFr (a : Int) (q : PV) : Prop := ∃ ch un st en cp up sp, FrameOk a ch un st en ∧ IsSl 4 (ch.map accP) cp ∧ IsSl 1 (un.map u16P) up ∧ IsSl 1 (st.map i32P) sp ∧ q = .agg [cp, up, sp, i32P en]
theorem frame_ok (x : BV) (hw : BvOk x) (hl : LightOk x) : Fn (cfg spc) 24 [bvP x] (IsFr x.first) := by
  have hl1 := hl.chart
  have hl2 := hl.units
  have hl3 := hl.long
  refine Fn.go Tryz.func24 (L := [(0, _)]) rfl rfl rfl (by first | rfl | (simp [deepL, deepB, *]; done) | (simp [deepL, deepB, *]; rfl)) rfl ?_
  refine Ps.seq ?_
  refine Ps.region rfl ?_
  refine Rs.box (l := [_, _, _, _, _]) rfl rfl rfl (by first | rfl | simp [deepB, deepL, *]) rfl ?_
  refine Rs.alloc (z := .agg [_, _, _, _]) (c := 4) rfl rfl rfl (fun g2 => ?_)
  refine Rs.nil ?_
  refine Ps.thn ?_
  refine Ps.seq ?_
  refine Ps.region rfl ?_
  first | refine Rs.fieldAddrD (off' := 0) rfl rfl rfl rfl ?_ | refine Rs.fieldAddrP (off' := 0) rfl rfl rfl rfl ?_
  refine Rs.loadD rfl rfl rfl rfl ?_
  refine Rs.call0 rfl rfl rfl (make06_ok x.chart _ dsl_is (by omega) hw.src) (fun p6 hp => ?_)
  obtain ⟨ch, hch, _, rfl⟩ := hp
  obtain ⟨cd, cs, cc, cl, cq⟩ := (slP_is 4 (ch.map accP)).all
  have ci := slP_is 4 (ch.map accP)
  first | refine Rs.fieldAddrD (off' := 1) rfl rfl rfl rfl ?_ | refine Rs.fieldAddrP (off' := 1) rfl rfl rfl rfl ?_
  refine Rs.loadD rfl rfl rfl rfl ?_
  refine Rs.call0 rfl rfl rfl (make07_ok x.units _ dsl_is (by omega) hw.un) (fun p9 hp => ?_)
  obtain ⟨un, hun, _, rfl⟩ := hp
  obtain ⟨ud, us, uc, ul, uq⟩ := (slP_is 1 (un.map u16P)).all
  have ui := slP_is 1 (un.map u16P)
  first | refine Rs.fieldAddrD (off' := 2) rfl rfl rfl rfl ?_ | refine Rs.fieldAddrP (off' := 2) rfl rfl rfl rfl ?_
  refine Rs.loadD rfl rfl rfl rfl ?_
  first | refine Rs.fieldAddrD (off' := 3) rfl rfl rfl rfl ?_ | refine Rs.fieldAddrP (off' := 3) rfl rfl rfl rfl ?_
  refine Rs.loadD rfl rfl rfl rfl ?_
  refine Rs.call0 rfl rfl rfl (make08_ok x.first x.long _ dsl_is (by omega) hw.first hw.long) (fun p14 hp => ?_)
  obtain ⟨st, en, sp, hst, hsp, rfl⟩ := hp
  obtain ⟨sd, ss, sc, sl, sq⟩ := hsp.all
  refine Rs.buildB (cs := [(0, [_]), (1, [_]), (2, [_, _])]) (l := [_, _, _, _]) rfl rfl (by first | rfl | simp only [cellsOf, cc, uc, sc]; rfl) rfl ?_
  refine Rs.alloc (z := .agg [_, _, _, _]) (c := 4) rfl rfl rfl (fun g3 => ?_)
  first | refine Rs.store0 (l' := [.agg [_, _, _, _]]) rfl rfl rfl (by first | rfl | exact storeB_ag rfl rfl rfl (by simp [scalars, sc_int, sc_str, sc_bool, sc_nil, sc_dsl, sc_own, sc_g, sc_f, *]) | exact storeB_fld rfl (by first | assumption | exact cl_g | exact cl_f) (by first | assumption | exact sc_g | exact sc_f) rfl) ?_ | refine Rs.store1 (l' := [.agg [_, _, _, _]]) rfl rfl rfl (by first | rfl | exact storeB_ag rfl rfl rfl (by simp [scalars, sc_int, sc_str, sc_bool, sc_nil, sc_dsl, sc_own, sc_g, sc_f, *]) | exact storeB_fld rfl (by first | assumption | exact cl_g | exact cl_f) (by first | assumption | exact sc_g | exact sc_f) rfl) ?_ | refine Rs.store2 (l' := [.agg [_, _, _, _]]) rfl rfl rfl (by first | rfl | exact storeB_ag rfl rfl rfl (by simp [scalars, sc_int, sc_str, sc_bool, sc_nil, sc_dsl, sc_own, sc_g, sc_f, *]) | exact storeB_fld rfl (by first | assumption | exact cl_g | exact cl_f) (by first | assumption | exact sc_g | exact sc_f) rfl) ?_ | refine Rs.store3 (l' := [.agg [_, _, _, _]]) rfl rfl rfl (by first | rfl | exact storeB_ag rfl rfl rfl (by simp [scalars, sc_int, sc_str, sc_bool, sc_nil, sc_dsl, sc_own, sc_g, sc_f, *]) | exact storeB_fld rfl (by first | assumption | exact cl_g | exact cl_f) (by first | assumption | exact sc_g | exact sc_f) rfl) ?_
  refine Rs.nil ?_
  refine Ps.thn ?_
  refine Ps.seq ?_
  refine Ps.seq ?_
  refine Ps.region rfl ?_
  first | refine Rs.fieldAddrD (off' := 0) rfl rfl rfl rfl ?_ | refine Rs.fieldAddrP (off' := 0) rfl rfl rfl rfl ?_
  first | refine Rs.loadR rfl rfl rfl rfl ?_ | refine Rs.loadP 0 rfl rfl rfl rfl rfl ?_ | refine Rs.loadP 1 rfl rfl rfl rfl rfl ?_ | refine Rs.loadP 2 rfl rfl rfl rfl rfl ?_ | refine Rs.loadP 3 rfl rfl rfl rfl rfl ?_
  first | refine Rs.lenD rfl rfl rfl rfl ?_ | refine Rs.lenO rfl rfl rfl rfl ?_ | refine Rs.lenI rfl rfl rfl rfl ?_ | refine Rs.lenA rfl rfl rfl rfl (by assumption) ?_ | refine Rs.lenS rfl rfl rfl rfl (by assumption) ?_
  refine Rs.binB rfl rfl rfl rfl rfl rfl ?_
  refine Rs.nil ?_
  refine Ps.thn ?_
  refine Ps.if rfl (fun hc => ?_) (fun hc => ?_)
  · try replace hc := dc hc
    refine Ps.region rfl ?_
    refine Rs.buildB (cs := [(0, [_]), (1, [_])]) (l := [_, _, _, _]) rfl rfl (by first | rfl | simp only [cellsOf, cc, uc, sc]; rfl) rfl ?_
    refine Rs.buildSlice (l := [_]) rfl rfl rfl rfl (by first | rfl | simp [deepL, deepB, *]) ?_
    first | refine Rs.fieldAddrD (off' := 0) rfl rfl rfl rfl ?_ | refine Rs.fieldAddrP (off' := 0) rfl rfl rfl rfl ?_
    first | refine Rs.store0 (l' := [.agg [_, _, _, _]]) rfl rfl rfl (by first | rfl | exact storeB_ag rfl rfl rfl (by simp [scalars, sc_int, sc_str, sc_bool, sc_nil, sc_dsl, sc_own, sc_g, sc_f, *]) | exact storeB_fld rfl (by first | assumption | exact cl_g | exact cl_f) (by first | assumption | exact sc_g | exact sc_f) rfl) ?_ | refine Rs.store1 (l' := [.agg [_, _, _, _]]) rfl rfl rfl (by first | rfl | exact storeB_ag rfl rfl rfl (by simp [scalars, sc_int, sc_str, sc_bool, sc_nil, sc_dsl, sc_own, sc_g, sc_f, *]) | exact storeB_fld rfl (by first | assumption | exact cl_g | exact cl_f) (by first | assumption | exact sc_g | exact sc_f) rfl) ?_ | refine Rs.store2 (l' := [.agg [_, _, _, _]]) rfl rfl rfl (by first | rfl | exact storeB_ag rfl rfl rfl (by simp [scalars, sc_int, sc_str, sc_bool, sc_nil, sc_dsl, sc_own, sc_g, sc_f, *]) | exact storeB_fld rfl (by first | assumption | exact cl_g | exact cl_f) (by first | assumption | exact sc_g | exact sc_f) rfl) ?_ | refine Rs.store3 (l' := [.agg [_, _, _, _]]) rfl rfl rfl (by first | rfl | exact storeB_ag rfl rfl rfl (by simp [scalars, sc_int, sc_str, sc_bool, sc_nil, sc_dsl, sc_own, sc_g, sc_f, *]) | exact storeB_fld rfl (by first | assumption | exact cl_g | exact cl_f) (by first | assumption | exact sc_g | exact sc_f) rfl) ?_
    refine Rs.nil ?_
    refine Ps.thn ?_
    refine Ps.seq ?_
    refine Ps.seq ?_
    refine Ps.region rfl ?_
    first | refine Rs.fieldAddrD (off' := 1) rfl rfl rfl rfl ?_ | refine Rs.fieldAddrP (off' := 1) rfl rfl rfl rfl ?_
    first | refine Rs.loadR rfl rfl rfl rfl ?_ | refine Rs.loadP 0 rfl rfl rfl rfl rfl ?_ | refine Rs.loadP 1 rfl rfl rfl rfl rfl ?_ | refine Rs.loadP 2 rfl rfl rfl rfl rfl ?_ | refine Rs.loadP 3 rfl rfl rfl rfl rfl ?_
    first | refine Rs.lenD rfl rfl rfl rfl ?_ | refine Rs.lenO rfl rfl rfl rfl ?_ | refine Rs.lenI rfl rfl rfl rfl ?_ | refine Rs.lenA rfl rfl rfl rfl (by assumption) ?_ | refine Rs.lenS rfl rfl rfl rfl (by assumption) ?_
    refine Rs.binB rfl rfl rfl rfl rfl rfl ?_
    refine Rs.nil ?_
    refine Ps.thn ?_
    refine Ps.if rfl (fun hc => ?_) (fun hc => ?_)
    · try replace hc := dc hc
      refine Ps.region rfl ?_
      refine Rs.buildSlice (l := [_]) rfl rfl rfl rfl (by first | rfl | simp [deepL, deepB, *]) ?_
      first | refine Rs.fieldAddrD (off' := 1) rfl rfl rfl rfl ?_ | refine Rs.fieldAddrP (off' := 1) rfl rfl rfl rfl ?_
      first | refine Rs.store0 (l' := [.agg [_, _, _, _]]) rfl rfl rfl (by first | rfl | exact storeB_ag rfl rfl rfl (by simp [scalars, sc_int, sc_str, sc_bool, sc_nil, sc_dsl, sc_own, sc_g, sc_f, *]) | exact storeB_fld rfl (by first | assumption | exact cl_g | exact cl_f) (by first | assumption | exact sc_g | exact sc_f) rfl) ?_ | refine Rs.store1 (l' := [.agg [_, _, _, _]]) rfl rfl rfl (by first | rfl | exact storeB_ag rfl rfl rfl (by simp [scalars, sc_int, sc_str, sc_bool, sc_nil, sc_dsl, sc_own, sc_g, sc_f, *]) | exact storeB_fld rfl (by first | assumption | exact cl_g | exact cl_f) (by first | assumption | exact sc_g | exact sc_f) rfl) ?_ | refine Rs.store2 (l' := [.agg [_, _, _, _]]) rfl rfl rfl (by first | rfl | exact storeB_ag rfl rfl rfl (by simp [scalars, sc_int, sc_str, sc_bool, sc_nil, sc_dsl, sc_own, sc_g, sc_f, *]) | exact storeB_fld rfl (by first | assumption | exact cl_g | exact cl_f) (by first | assumption | exact sc_g | exact sc_f) rfl) ?_ | refine Rs.store3 (l' := [.agg [_, _, _, _]]) rfl rfl rfl (by first | rfl | exact storeB_ag rfl rfl rfl (by simp [scalars, sc_int, sc_str, sc_bool, sc_nil, sc_dsl, sc_own, sc_g, sc_f, *]) | exact storeB_fld rfl (by first | assumption | exact cl_g | exact cl_f) (by first | assumption | exact sc_g | exact sc_f) rfl) ?_
      refine Rs.nil ?_
      refine Ps.thn ?_
      refine Ps.seq ?_
      refine Ps.region rfl ?_
      first | refine Rs.loadR (p := .agg [_, _, _, _]) rfl rfl rfl rfl ?_ | refine Rs.loadP (p := .agg [_, _, _, _]) 0 rfl rfl rfl rfl rfl ?_ | refine Rs.loadP (p := .agg [_, _, _, _]) 1 rfl rfl rfl rfl rfl ?_ | refine Rs.loadP (p := .agg [_, _, _, _]) 2 rfl rfl rfl rfl rfl ?_ | refine Rs.loadP (p := .agg [_, _, _, _]) 3 rfl rfl rfl rfl rfl ?_
      first | refine Rs.store0 (l' := [.agg [_, _, _, _]]) rfl rfl rfl (by first | rfl | exact storeB_ag rfl rfl rfl (by simp [scalars, sc_int, sc_str, sc_bool, sc_nil, sc_dsl, sc_own, sc_g, sc_f, *]) | exact storeB_fld rfl (by first | assumption | exact cl_g | exact cl_f) (by first | assumption | exact sc_g | exact sc_f) rfl) ?_ | refine Rs.store1 (l' := [.agg [_, _, _, _]]) rfl rfl rfl (by first | rfl | exact storeB_ag rfl rfl rfl (by simp [scalars, sc_int, sc_str, sc_bool, sc_nil, sc_dsl, sc_own, sc_g, sc_f, *]) | exact storeB_fld rfl (by first | assumption | exact cl_g | exact cl_f) (by first | assumption | exact sc_g | exact sc_f) rfl) ?_ | refine Rs.store2 (l' := [.agg [_, _, _, _]]) rfl rfl rfl (by first | rfl | exact storeB_ag rfl rfl rfl (by simp [scalars, sc_int, sc_str, sc_bool, sc_nil, sc_dsl, sc_own, sc_g, sc_f, *]) | exact storeB_fld rfl (by first | assumption | exact cl_g | exact cl_f) (by first | assumption | exact sc_g | exact sc_f) rfl) ?_ | refine Rs.store3 (l' := [.agg [_, _, _, _]]) rfl rfl rfl (by first | rfl | exact storeB_ag rfl rfl rfl (by simp [scalars, sc_int, sc_str, sc_bool, sc_nil, sc_dsl, sc_own, sc_g, sc_f, *]) | exact storeB_fld rfl (by first | assumption | exact cl_g | exact cl_f) (by first | assumption | exact sc_g | exact sc_f) rfl) ?_
      refine Rs.nil ?_
      refine Ps.thn ?_
      refine Ps.ret ?_
      -- leaf 1 (ret)
      refine Ps.finP (l := [_]) rfl (by (first | refine ResR.cell (p := .agg [_, _, _, _]) 0 rfl rfl rfl ?_ | refine ResR.cell (p := .agg [_, _, _, _]) 1 rfl rfl rfl ?_ | refine ResR.cell (p := .agg [_, _, _, _]) 2 rfl rfl rfl ?_ | refine ResR.cell (p := .agg [_, _, _, _]) 3 rfl rfl rfl ?_); exact ResR.nil) (by first | rfl | simp [plainP, plainC, cp_lit, cp_dsl, *]) rfl ?_
      have hchn : ¬ ((ch.map accP).length : Int) = 0 → ch ≠ [] := fun h e => by subst e; simp at h
      have hunn : ¬ ((un.map u16P).length : Int) = 0 → un ≠ [] := fun h e => by subst e; simp at h
      have u5 : MadeU [5] := ⟨List.pairwise_singleton _ _, by simp⟩
      first
        | exact ⟨ch, un, st, en, _, _, sp, ⟨hch, hchn (by assumption), hun, hunn (by assumption), hst⟩, ci, ui, hsp, rfl⟩
        | exact ⟨ch, [5], st, en, _, _, sp, ⟨hch, hchn (by assumption), u5, by simp, hst⟩, ci, dsl_is, hsp, rfl⟩
        | exact ⟨[⟨7, ⟨#[67, 97, 115, 104]⟩, 0, 0⟩], un, st, en, _, _, sp, ⟨cash_ok, by simp, hun, hunn (by assumption), hst⟩, dsl_is, ui, hsp, rfl⟩
        | exact ⟨[⟨7, ⟨#[67, 97, 115, 104]⟩, 0, 0⟩], [5], st, en, _, _, sp, ⟨cash_ok, by simp, u5, by simp, hst⟩, dsl_is, dsl_is, hsp, rfl⟩
    · try replace hc := dc hc
      refine Ps.skip ?_
      refine Ps.thn ?_
      refine Ps.seq ?_
      refine Ps.region rfl ?_
      first | refine Rs.loadR (p := .agg [_, _, _, _]) rfl rfl rfl rfl ?_ | refine Rs.loadP (p := .agg [_, _, _, _]) 0 rfl rfl rfl rfl rfl ?_ | refine Rs.loadP (p := .agg [_, _, _, _]) 1 rfl rfl rfl rfl rfl ?_ | refine Rs.loadP (p := .agg [_, _, _, _]) 2 rfl rfl rfl rfl rfl ?_ | refine Rs.loadP (p := .agg [_, _, _, _]) 3 rfl rfl rfl rfl rfl ?_
      first | refine Rs.store0 (l' := [.agg [_, _, _, _]]) rfl rfl rfl (by first | rfl | exact storeB_ag rfl rfl rfl (by simp [scalars, sc_int, sc_str, sc_bool, sc_nil, sc_dsl, sc_own, sc_g, sc_f, *]) | exact storeB_fld rfl (by first | assumption | exact cl_g | exact cl_f) (by first | assumption | exact sc_g | exact sc_f) rfl) ?_ | refine Rs.store1 (l' := [.agg [_, _, _, _]]) rfl rfl rfl (by first | rfl | exact storeB_ag rfl rfl rfl (by simp [scalars, sc_int, sc_str, sc_bool, sc_nil, sc_dsl, sc_own, sc_g, sc_f, *]) | exact storeB_fld rfl (by first | assumption | exact cl_g | exact cl_f) (by first | assumption | exact sc_g | exact sc_f) rfl) ?_ | refine Rs.store2 (l' := [.agg [_, _, _, _]]) rfl rfl rfl (by first | rfl | exact storeB_ag rfl rfl rfl (by simp [scalars, sc_int, sc_str, sc_bool, sc_nil, sc_dsl, sc_own, sc_g, sc_f, *]) | exact storeB_fld rfl (by first | assumption | exact cl_g | exact cl_f) (by first | assumption | exact sc_g | exact sc_f) rfl) ?_ | refine Rs.store3 (l' := [.agg [_, _, _, _]]) rfl rfl rfl (by first | rfl | exact storeB_ag rfl rfl rfl (by simp [scalars, sc_int, sc_str, sc_bool, sc_nil, sc_dsl, sc_own, sc_g, sc_f, *]) | exact storeB_fld rfl (by first | assumption | exact cl_g | exact cl_f) (by first | assumption | exact sc_g | exact sc_f) rfl) ?_
      refine Rs.nil ?_
      refine Ps.thn ?_
      refine Ps.ret ?_
      -- leaf 2 (ret)
      refine Ps.finP (l := [_]) rfl (by (first | refine ResR.cell (p := .agg [_, _, _, _]) 0 rfl rfl rfl ?_ | refine ResR.cell (p := .agg [_, _, _, _]) 1 rfl rfl rfl ?_ | refine ResR.cell (p := .agg [_, _, _, _]) 2 rfl rfl rfl ?_ | refine ResR.cell (p := .agg [_, _, _, _]) 3 rfl rfl rfl ?_); exact ResR.nil) (by first | rfl | simp [plainP, plainC, cp_lit, cp_dsl, *]) rfl ?_
      have hchn : ¬ ((ch.map accP).length : Int) = 0 → ch ≠ [] := fun h e => by subst e; simp at h
      have hunn : ¬ ((un.map u16P).length : Int) = 0 → un ≠ [] := fun h e => by subst e; simp at h
      have u5 : MadeU [5] := ⟨List.pairwise_singleton _ _, by simp⟩
      first
        | exact ⟨ch, un, st, en, _, _, sp, ⟨hch, hchn (by assumption), hun, hunn (by assumption), hst⟩, ci, ui, hsp, rfl⟩
        | exact ⟨ch, [5], st, en, _, _, sp, ⟨hch, hchn (by assumption), u5, by simp, hst⟩, ci, dsl_is, hsp, rfl⟩
        | exact ⟨[⟨7, ⟨#[67, 97, 115, 104]⟩, 0, 0⟩], un, st, en, _, _, sp, ⟨cash_ok, by simp, hun, hunn (by assumption), hst⟩, dsl_is, ui, hsp, rfl⟩
        | exact ⟨[⟨7, ⟨#[67, 97, 115, 104]⟩, 0, 0⟩], [5], st, en, _, _, sp, ⟨cash_ok, by simp, u5, by simp, hst⟩, dsl_is, dsl_is, hsp, rfl⟩
  · try replace hc := dc hc
    refine Ps.skip ?_
    refine Ps.thn ?_
    refine Ps.seq ?_
    refine Ps.seq ?_
    refine Ps.region rfl ?_
    first | refine Rs.fieldAddrD (off' := 1) rfl rfl rfl rfl ?_ | refine Rs.fieldAddrP (off' := 1) rfl rfl rfl rfl ?_
    first | refine Rs.loadR rfl rfl rfl rfl ?_ | refine Rs.loadP 0 rfl rfl rfl rfl rfl ?_ | refine Rs.loadP 1 rfl rfl rfl rfl rfl ?_ | refine Rs.loadP 2 rfl rfl rfl rfl rfl ?_ | refine Rs.loadP 3 rfl rfl rfl rfl rfl ?_
    first | refine Rs.lenD rfl rfl rfl rfl ?_ | refine Rs.lenO rfl rfl rfl rfl ?_ | refine Rs.lenI rfl rfl rfl rfl ?_ | refine Rs.lenA rfl rfl rfl rfl (by assumption) ?_ | refine Rs.lenS rfl rfl rfl rfl (by assumption) ?_
    refine Rs.binB rfl rfl rfl rfl rfl rfl ?_
    refine Rs.nil ?_
    refine Ps.thn ?_
    refine Ps.if rfl (fun hc => ?_) (fun hc => ?_)
    · try replace hc := dc hc
      refine Ps.region rfl ?_
      refine Rs.buildSlice (l := [_]) rfl rfl rfl rfl (by first | rfl | simp [deepL, deepB, *]) ?_
      first | refine Rs.fieldAddrD (off' := 1) rfl rfl rfl rfl ?_ | refine Rs.fieldAddrP (off' := 1) rfl rfl rfl rfl ?_
      first | refine Rs.store0 (l' := [.agg [_, _, _, _]]) rfl rfl rfl (by first | rfl | exact storeB_ag rfl rfl rfl (by simp [scalars, sc_int, sc_str, sc_bool, sc_nil, sc_dsl, sc_own, sc_g, sc_f, *]) | exact storeB_fld rfl (by first | assumption | exact cl_g | exact cl_f) (by first | assumption | exact sc_g | exact sc_f) rfl) ?_ | refine Rs.store1 (l' := [.agg [_, _, _, _]]) rfl rfl rfl (by first | rfl | exact storeB_ag rfl rfl rfl (by simp [scalars, sc_int, sc_str, sc_bool, sc_nil, sc_dsl, sc_own, sc_g, sc_f, *]) | exact storeB_fld rfl (by first | assumption | exact cl_g | exact cl_f) (by first | assumption | exact sc_g | exact sc_f) rfl) ?_ | refine Rs.store2 (l' := [.agg [_, _, _, _]]) rfl rfl rfl (by first | rfl | exact storeB_ag rfl rfl rfl (by simp [scalars, sc_int, sc_str, sc_bool, sc_nil, sc_dsl, sc_own, sc_g, sc_f, *]) | exact storeB_fld rfl (by first | assumption | exact cl_g | exact cl_f) (by first | assumption | exact sc_g | exact sc_f) rfl) ?_ | refine Rs.store3 (l' := [.agg [_, _, _, _]]) rfl rfl rfl (by first | rfl | exact storeB_ag rfl rfl rfl (by simp [scalars, sc_int, sc_str, sc_bool, sc_nil, sc_dsl, sc_own, sc_g, sc_f, *]) | exact storeB_fld rfl (by first | assumption | exact cl_g | exact cl_f) (by first | assumption | exact sc_g | exact sc_f) rfl) ?_
      refine Rs.nil ?_
      refine Ps.thn ?_
      refine Ps.seq ?_
      refine Ps.region rfl ?_
      first | refine Rs.loadR (p := .agg [_, _, _, _]) rfl rfl rfl rfl ?_ | refine Rs.loadP (p := .agg [_, _, _, _]) 0 rfl rfl rfl rfl rfl ?_ | refine Rs.loadP (p := .agg [_, _, _, _]) 1 rfl rfl rfl rfl rfl ?_ | refine Rs.loadP (p := .agg [_, _, _, _]) 2 rfl rfl rfl rfl rfl ?_ | refine Rs.loadP (p := .agg [_, _, _, _]) 3 rfl rfl rfl rfl rfl ?_
      first | refine Rs.store0 (l' := [.agg [_, _, _, _]]) rfl rfl rfl (by first | rfl | exact storeB_ag rfl rfl rfl (by simp [scalars, sc_int, sc_str, sc_bool, sc_nil, sc_dsl, sc_own, sc_g, sc_f, *]) | exact storeB_fld rfl (by first | assumption | exact cl_g | exact cl_f) (by first | assumption | exact sc_g | exact sc_f) rfl) ?_ | refine Rs.store1 (l' := [.agg [_, _, _, _]]) rfl rfl rfl (by first | rfl | exact storeB_ag rfl rfl rfl (by simp [scalars, sc_int, sc_str, sc_bool, sc_nil, sc_dsl, sc_own, sc_g, sc_f, *]) | exact storeB_fld rfl (by first | assumption | exact cl_g | exact cl_f) (by first | assumption | exact sc_g | exact sc_f) rfl) ?_ | refine Rs.store2 (l' := [.agg [_, _, _, _]]) rfl rfl rfl (by first | rfl | exact storeB_ag rfl rfl rfl (by simp [scalars, sc_int, sc_str, sc_bool, sc_nil, sc_dsl, sc_own, sc_g, sc_f, *]) | exact storeB_fld rfl (by first | assumption | exact cl_g | exact cl_f) (by first | assumption | exact sc_g | exact sc_f) rfl) ?_ | refine Rs.store3 (l' := [.agg [_, _, _, _]]) rfl rfl rfl (by first | rfl | exact storeB_ag rfl rfl rfl (by simp [scalars, sc_int, sc_str, sc_bool, sc_nil, sc_dsl, sc_own, sc_g, sc_f, *]) | exact storeB_fld rfl (by first | assumption | exact cl_g | exact cl_f) (by first | assumption | exact sc_g | exact sc_f) rfl) ?_
      refine Rs.nil ?_
      refine Ps.thn ?_
      refine Ps.ret ?_
      -- leaf 3 (ret)
      refine Ps.finP (l := [_]) rfl (by (first | refine ResR.cell (p := .agg [_, _, _, _]) 0 rfl rfl rfl ?_ | refine ResR.cell (p := .agg [_, _, _, _]) 1 rfl rfl rfl ?_ | refine ResR.cell (p := .agg [_, _, _, _]) 2 rfl rfl rfl ?_ | refine ResR.cell (p := .agg [_, _, _, _]) 3 rfl rfl rfl ?_); exact ResR.nil) (by first | rfl | simp [plainP, plainC, cp_lit, cp_dsl, *]) rfl ?_
      have hchn : ¬ ((ch.map accP).length : Int) = 0 → ch ≠ [] := fun h e => by subst e; simp at h
      have hunn : ¬ ((un.map u16P).length : Int) = 0 → un ≠ [] := fun h e => by subst e; simp at h
      have u5 : MadeU [5] := ⟨List.pairwise_singleton _ _, by simp⟩
      first
        | exact ⟨ch, un, st, en, _, _, sp, ⟨hch, hchn (by assumption), hun, hunn (by assumption), hst⟩, ci, ui, hsp, rfl⟩
        | exact ⟨ch, [5], st, en, _, _, sp, ⟨hch, hchn (by assumption), u5, by simp, hst⟩, ci, dsl_is, hsp, rfl⟩
        | exact ⟨[⟨7, ⟨#[67, 97, 115, 104]⟩, 0, 0⟩], un, st, en, _, _, sp, ⟨cash_ok, by simp, hun, hunn (by assumption), hst⟩, dsl_is, ui, hsp, rfl⟩
        | exact ⟨[⟨7, ⟨#[67, 97, 115, 104]⟩, 0, 0⟩], [5], st, en, _, _, sp, ⟨cash_ok, by simp, u5, by simp, hst⟩, dsl_is, dsl_is, hsp, rfl⟩
    · try replace hc := dc hc
      refine Ps.skip ?_
      refine Ps.thn ?_
      refine Ps.seq ?_
      refine Ps.region rfl ?_
      first | refine Rs.loadR (p := .agg [_, _, _, _]) rfl rfl rfl rfl ?_ | refine Rs.loadP (p := .agg [_, _, _, _]) 0 rfl rfl rfl rfl rfl ?_ | refine Rs.loadP (p := .agg [_, _, _, _]) 1 rfl rfl rfl rfl rfl ?_ | refine Rs.loadP (p := .agg [_, _, _, _]) 2 rfl rfl rfl rfl rfl ?_ | refine Rs.loadP (p := .agg [_, _, _, _]) 3 rfl rfl rfl rfl rfl ?_
      first | refine Rs.store0 (l' := [.agg [_, _, _, _]]) rfl rfl rfl (by first | rfl | exact storeB_ag rfl rfl rfl (by simp [scalars, sc_int, sc_str, sc_bool, sc_nil, sc_dsl, sc_own, sc_g, sc_f, *]) | exact storeB_fld rfl (by first | assumption | exact cl_g | exact cl_f) (by first | assumption | exact sc_g | exact sc_f) rfl) ?_ | refine Rs.store1 (l' := [.agg [_, _, _, _]]) rfl rfl rfl (by first | rfl | exact storeB_ag rfl rfl rfl (by simp [scalars, sc_int, sc_str, sc_bool, sc_nil, sc_dsl, sc_own, sc_g, sc_f, *]) | exact storeB_fld rfl (by first | assumption | exact cl_g | exact cl_f) (by first | assumption | exact sc_g | exact sc_f) rfl) ?_ | refine Rs.store2 (l' := [.agg [_, _, _, _]]) rfl rfl rfl (by first | rfl | exact storeB_ag rfl rfl rfl (by simp [scalars, sc_int, sc_str, sc_bool, sc_nil, sc_dsl, sc_own, sc_g, sc_f, *]) | exact storeB_fld rfl (by first | assumption | exact cl_g | exact cl_f) (by first | assumption | exact sc_g | exact sc_f) rfl) ?_ | refine Rs.store3 (l' := [.agg [_, _, _, _]]) rfl rfl rfl (by first | rfl | exact storeB_ag rfl rfl rfl (by simp [scalars, sc_int, sc_str, sc_bool, sc_nil, sc_dsl, sc_own, sc_g, sc_f, *]) | exact storeB_fld rfl (by first | assumption | exact cl_g | exact cl_f) (by first | assumption | exact sc_g | exact sc_f) rfl) ?_
      refine Rs.nil ?_
      refine Ps.thn ?_
      refine Ps.ret ?_
      -- leaf 4 (ret)
      refine Ps.finP (l := [_]) rfl (by (first | refine ResR.cell (p := .agg [_, _, _, _]) 0 rfl rfl rfl ?_ | refine ResR.cell (p := .agg [_, _, _, _]) 1 rfl rfl rfl ?_ | refine ResR.cell (p := .agg [_, _, _, _]) 2 rfl rfl rfl ?_ | refine ResR.cell (p := .agg [_, _, _, _]) 3 rfl rfl rfl ?_); exact ResR.nil) (by first | rfl | simp [plainP, plainC, cp_lit, cp_dsl, *]) rfl ?_
      have hchn : ¬ ((ch.map accP).length : Int) = 0 → ch ≠ [] := fun h e => by subst e; simp at h
      have hunn : ¬ ((un.map u16P).length : Int) = 0 → un ≠ [] := fun h e => by subst e; simp at h
      have u5 : MadeU [5] := ⟨List.pairwise_singleton _ _, by simp⟩
      first
        | exact ⟨ch, un, st, en, _, _, sp, ⟨hch, hchn (by assumption), hun, hunn (by assumption), hst⟩, ci, ui, hsp, rfl⟩
        | exact ⟨ch, [5], st, en, _, _, sp, ⟨hch, hchn (by assumption), u5, by simp, hst⟩, ci, dsl_is, hsp, rfl⟩
        | exact ⟨[⟨7, ⟨#[67, 97, 115, 104]⟩, 0, 0⟩], un, st, en, _, _, sp, ⟨cash_ok, by simp, hun, hunn (by assumption), hst⟩, dsl_is, ui, hsp, rfl⟩
        | exact ⟨[⟨7, ⟨#[67, 97, 115, 104]⟩, 0, 0⟩], [5], st, en, _, _, sp, ⟨cash_ok, by simp, u5, by simp, hst⟩, dsl_is, dsl_is, hsp, rfl⟩
structure LnIn (ch : List Acc) (un : List Int) (l : Ln) : Prop where
  acc : ∃ a ∈ ch, a.code = l.acc
  ent : l.ent ∈ un
  ctr : l.ctr = 0 ∨ l.ctr ∈ un
end Go.Proofs.YtddaogebacigbaaGreatDoor.RV.T
end
section
open Go Go.Proofs.YtddaogebacigbaaGreatDoor.RV Go.Proofs.YtddaogebacigbaaGreatDoor.XA.Awk Go.Proofs.YtddaogebacigbaaGreatDoor.RV.ChartMath Go.Proofs
namespace Go.Proofs.YtddaogebacigbaaGreatDoor.RV.T
set_option maxRecDepth 100000
set_option linter.unusedVariables false
set_option linter.unusedSimpArgs false
variable {spc : Sp}
def sm : List Ln → Int → Int
  | [], _ => 0
  | l :: r, q => (if l.ent = q then l.amt else 0) + sm r q
structure LinesOk (ch : List Acc) (un : List Int) (out : List Ln) : Prop where
  allin : ∀ l ∈ out, LnIn ch un l
  amt : ∀ l ∈ out, l.amt ≠ 0 ∧ -2305843009213693952 ≤ l.amt ∧ l.amt ≤ 2305843009213693952
  sums : ∀ q, sm out q = 0
  len : out.length ≤ 17
end Go.Proofs.YtddaogebacigbaaGreatDoor.RV.T
end
section
open Go Go.Proofs.YtddaogebacigbaaGreatDoor.RV Go.Proofs.YtddaogebacigbaaGreatDoor.XA.Awk Go.Proofs.YtddaogebacigbaaGreatDoor.RV.ChartMath Go.Proofs
namespace Go.Proofs.YtddaogebacigbaaGreatDoor.RV.T
set_option maxRecDepth 100000
set_option linter.unusedVariables false
set_option linter.unusedSimpArgs false
variable {spc : Sp}
structure JnsOk (ch : List Acc) (un : List Int) (a en : Int) (js : List Jn) : Prop where
  lines : ∀ j ∈ js, LinesOk ch un j.lines ∧ j.lines ≠ []
  days : js.Pairwise (fun x y => x.day ≤ y.day)
  rng : ∀ j ∈ js, a ≤ j.day ∧ j.day < en
  len : js.length ≤ 12
structure BookOk (a : Int) (ch : List Acc) (un st : List Int) (en : Int) (js : List Jn) : Prop where
  fr : FrameOk a ch un st en
  js : JnsOk ch un a en js
end Go.Proofs.YtddaogebacigbaaGreatDoor.RV.T
end
section
open Go Go.Proofs.YtddaogebacigbaaGreatDoor.RV Go.Proofs.YtddaogebacigbaaGreatDoor.XA.Awk Go.Proofs.YtddaogebacigbaaGreatDoor.RV.ChartMath Go.Proofs
namespace Go.Proofs.YtddaogebacigbaaGreatDoor.RV.T
set_option maxRecDepth 100000
set_option linter.unusedVariables false
set_option linter.unusedSimpArgs false
variable {spc : Sp}
end Go.Proofs.YtddaogebacigbaaGreatDoor.RV.T
end
section
open Go Go.Proofs.YtddaogebacigbaaGreatDoor.RV Go.Proofs.YtddaogebacigbaaGreatDoor.XA.Awk Go.Proofs.YtddaogebacigbaaGreatDoor.RV.ChartMath Go.Proofs
namespace Go.Proofs.YtddaogebacigbaaGreatDoor.RV.T
set_option maxRecDepth 100000
set_option linter.unusedVariables false
set_option linter.unusedSimpArgs false
variable {spc : Sp}
def cmpN (a n : Int) : Int := if a < n then -1 else if a > n then 1 else 0
theorem find1_ok (a : Acc) (n : Int) : Fn (cfg spc) 100 [accP a, u32P n] (· = i64P (cmpN a.code n)) := by
  refine Fn.go Tryz.func100 (L := [(0, _), (1, _)]) rfl rfl rfl (by first | rfl | (simp [deepL, deepB, *]; done) | (simp [deepL, deepB, *]; rfl)) rfl ?_
  refine Ps.seq ?_
  refine Ps.region rfl ?_
  refine Rs.box (l := [_, _, _, _]) rfl rfl rfl (by first | rfl | simp [deepB, deepL, *]) rfl ?_
  refine Rs.assign (p := .lit _) rfl rfl ?_
  refine Rs.nil ?_
  refine Ps.thn ?_
  refine Ps.seq ?_
  refine Ps.block ?_
  refine Ps.seq ?_
  refine Ps.region rfl ?_
  first | refine Rs.fieldAddrD (off' := 0) rfl rfl rfl rfl ?_ | refine Rs.fieldAddrP (off' := 0) rfl rfl rfl rfl ?_
  refine Rs.loadD rfl rfl rfl rfl ?_
  refine Rs.move rfl rfl ?_
  refine Rs.binB rfl rfl rfl rfl rfl rfl ?_
  refine Rs.assign rfl rfl ?_
  refine Rs.nil ?_
  refine Ps.thn ?_
  refine Ps.if rfl (fun hc => ?_) (fun hc => ?_)
  · try replace hc := dc hc
    refine Ps.seq ?_
    refine Ps.region rfl ?_
    refine Rs.assign (p := .lit _) rfl rfl ?_
    refine Rs.nil ?_
    refine Ps.thn ?_
    refine Ps.ret ?_
    refine Ps.blk_ret ?_
    refine Ps.thn_ret ?_
    -- leaf 1 (ret)
    refine Ps.finP (l := [_]) rfl (by refine ResR.tmp rfl ?_; exact ResR.nil) (by first | rfl | simp [plainP, plainC, cp_lit, cp_dsl, *]) rfl ?_
    show i64P _ = i64P _
    unfold cmpN
    congr 1
    simp_all
    try omega
  · try replace hc := dc hc
    refine Ps.seq ?_
    refine Ps.region rfl ?_
    first | refine Rs.fieldAddrD (off' := 0) rfl rfl rfl rfl ?_ | refine Rs.fieldAddrP (off' := 0) rfl rfl rfl rfl ?_
    refine Rs.loadD rfl rfl rfl rfl ?_
    refine Rs.move rfl rfl ?_
    refine Rs.binB rfl rfl rfl rfl rfl rfl ?_
    refine Rs.assign rfl rfl ?_
    refine Rs.nil ?_
    refine Ps.thn ?_
    refine Ps.if rfl (fun hc => ?_) (fun hc => ?_)
    · try replace hc := dc hc
      refine Ps.seq ?_
      refine Ps.region rfl ?_
      refine Rs.assign (p := .lit _) rfl rfl ?_
      refine Rs.nil ?_
      refine Ps.thn ?_
      refine Ps.ret ?_
      refine Ps.blk_ret ?_
      refine Ps.thn_ret ?_
      -- leaf 2 (ret)
      refine Ps.finP (l := [_]) rfl (by refine ResR.tmp rfl ?_; exact ResR.nil) (by first | rfl | simp [plainP, plainC, cp_lit, cp_dsl, *]) rfl ?_
      show i64P _ = i64P _
      unfold cmpN
      congr 1
      simp_all
      try omega
    · try replace hc := dc hc
      refine Ps.skip ?_
      refine Ps.blk ?_
      refine Ps.thn ?_
      refine Ps.seq ?_
      refine Ps.region rfl ?_
      refine Rs.assign (p := .lit _) rfl rfl ?_
      refine Rs.nil ?_
      refine Ps.thn ?_
      refine Ps.ret ?_
      -- leaf 3 (ret)
      refine Ps.finP (l := [_]) rfl (by refine ResR.tmp rfl ?_; exact ResR.nil) (by first | rfl | simp [plainP, plainC, cp_lit, cp_dsl, *]) rfl ?_
      show i64P _ = i64P _
      unfold cmpN
      congr 1
      simp_all
      try omega
def hitAt (c : List Acc) (i : Nat) (n : Int) : Bool := (c[i]?).any (fun a => a.code == n)
def SplitAt (c : List Acc) (n : Int) (lo hi : Nat) : Prop := Sorted c → ∀ k a, c[k]? = some a → (k < lo → a.code < n) ∧ (hi ≤ k → n ≤ a.code)
theorem sorted_lt {c : List Acc} (S : Sorted c) {i j : Nat} {a b : Acc} (hi : c[i]? = some a) (hj : c[j]? = some b) (h : i < j) : a.code < b.code := by
  obtain ⟨h1, rfl⟩ := List.getElem?_eq_some_iff.1 hi
  obtain ⟨h2, rfl⟩ := List.getElem?_eq_some_iff.1 hj
  exact List.pairwise_iff_getElem.1 S i j h1 h2 h
theorem split_find {c : List Acc} {n : Int} {i : Nat} (h : SplitAt c n i i) (S : Sorted c) : find c n = if hitAt c i n then c[i]? else none := by
  cases hf : find c n with
  | some b =>
    obtain ⟨hb, rfl⟩ := find_mem hf
    obtain ⟨k, hk⟩ := List.getElem?_of_mem hb
    obtain ⟨h1, h2⟩ := h S k b hk
    rcases Nat.lt_trichotomy k i with hlt | rfl | hgt
    · have := h1 hlt; omega
    · simp [hitAt, hk]
    · have hi : i < c.length := by have := (List.getElem?_eq_some_iff.1 hk).1; omega
      obtain ⟨h3, h4⟩ := h S i c[i] (List.getElem?_eq_getElem hi)
      have := h4 (Nat.le_refl _)
      have := sorted_lt S (List.getElem?_eq_getElem hi) hk hgt
      omega
  | none =>
    cases ha : c[i]? with
    | none => simp [hitAt, ha]
    | some a =>
      have := find_none hf a (List.mem_of_getElem? ha)
      simp [hitAt, ha, this]
theorem bsf_ok (l : List Acc) (p : PV) (n : Int) (M0 : Mem) (hp : IsSl 4 (l.map accP) p) (hl : l.length < 1000000) : Fm0 (cfg spc) 99 [p, u32P n, .clo 100 [] []] M0 (fun q M' => M' = M0 ∧ ∃ i : Nat, i ≤ l.length ∧ SplitAt l n i i ∧ q = .tup [i64P i, boolP (hitAt l i n)]) := by
  refine Fm0.go Tryz.func99 (L := [(0, _), (1, _), (2, _)]) rfl rfl rfl rfl ?_
  refine Ps.seq ?_
  refine Ps.region rfl ?_
  refine Rs.assign (p := .lit _) rfl rfl ?_
  refine Rs.assign (p := .lit _) rfl rfl ?_
  refine Rs.nil ?_
  refine Ps.thn ?_
  refine Ps.seq ?_
  refine Ps.region rfl ?_
  refine Rs.move rfl rfl ?_
  first | refine Rs.lenD rfl rfl rfl rfl ?_ | refine Rs.lenO rfl rfl rfl rfl ?_ | refine Rs.lenI rfl rfl rfl rfl ?_ | refine Rs.lenA rfl rfl rfl rfl (by assumption) ?_ | refine Rs.lenS rfl rfl rfl rfl (by assumption) ?_
  refine Rs.assign rfl rfl ?_
  refine Rs.nil ?_
  refine Ps.thn ?_
  refine Ps.seq ?_
  refine Ps.region rfl ?_
  refine Rs.move rfl rfl ?_
  refine Rs.assign (p := .lit _) rfl rfl ?_
  refine Rs.assign rfl rfl ?_
  refine Rs.nil ?_
  refine Ps.thn ?_
  refine Ps.seq ?_
  refine Ps.block ?_
  -- loop 1 writes [9, 10, 11, 15, 16, 17, 18, 19, 20, 21, 22, 23, 24, 25, 26, 27, 28, 29, 30, 31, 32, 33, 34]
  refine Ps.loop (J := Nat × Nat) ⟨fun j => j.1 ≤ j.2 ∧ j.2 ≤ l.length ∧ SplitAt l n j.1 j.2, fun j => [(9, i64P j.1), (10, i64P j.2)], fun _ => M0, fun j => j.2 - j.1⟩ [9, 10, 11, 15, 16, 17, 18, 19, 20, 21, 22, 23, 24, 25, 26, 27, 28, 29, 30, 31, 32, 33, 34] [(14, _), (8, _), (13, _), (12, _), (7, _), (6, _), (0, _), (1, _), (2, _)] (0, l.length) rfl ⟨Nat.zero_le _, Nat.le_refl _, fun _ k a hk => ⟨fun h => (by omega), fun h => (by have := (List.getElem?_eq_some_iff.1 hk).1; omega)⟩⟩ ⟨rfl, (by show some (i64P (((l.map accP).length : Nat) : Int)) = _; rw [List.length_map]), trivial⟩ (List.Sublist.refl _) (fun j hj => ?_)
  obtain ⟨lo, hi⟩ := j
  obtain ⟨h1, h2, h3⟩ : lo ≤ hi ∧ hi ≤ l.length ∧ SplitAt l n lo hi := hj
  dsimp only [List.cons_append, List.nil_append]
  refine Ps.seq ?_
  refine Ps.seq ?_
  refine Ps.region rfl ?_
  refine Rs.move rfl rfl ?_
  refine Rs.move rfl rfl ?_
  refine Rs.binB rfl rfl rfl rfl rfl rfl ?_
  refine Rs.nil ?_
  refine Ps.thn ?_
  refine Ps.if rfl (fun hc => ?_) (fun hc => ?_)
  · try replace hc := dc hc
    refine Ps.skip ?_
    refine Ps.thn ?_
    refine Ps.block ?_
    refine Ps.seq ?_
    have hlt : lo < hi := by simp at hc; omega
    have hm : (lo + hi) / 2 < l.length := by omega
    obtain ⟨a, ha⟩ := at_lt hm
    refine Ps.region rfl ?_
    refine Rs.move rfl rfl ?_
    refine Rs.move rfl rfl ?_
    refine Rs.add rfl rfl rfl (by first | exact W_i64s (by omega) | exact W_i64 (by omega) (by omega) | rfl) ?_
    refine Rs.convI rfl rfl ⟨_, rfl⟩ rfl rfl (by first | exact W_u64 (by omega) (by omega) | rfl) ?_
    refine Rs.shr rfl rfl rfl rfl (by show Int.fdiv _ 2 = _; exact Int.fdiv_eq_ediv_of_nonneg _ (by decide)) ?_
    refine Rs.convI rfl rfl ⟨_, rfl⟩ rfl rfl (by first | exact W_i64 (by omega) (by omega) | rfl) ?_
    refine Rs.assign rfl rfl ?_
    refine Rs.nil ?_
    refine Ps.thn ?_
    refine Ps.seq ?_
    refine Ps.region rfl ?_
    refine Rs.move rfl rfl ?_
    refine Rs.move rfl rfl ?_
    refine Rs.move rfl rfl ?_
    first | refine Rs.indexD (lc := [_, _, _, _]) rfl rfl rfl rfl rfl (by omega) (map_at ha) rfl ?_ | refine Rs.indexS (lc := [_, _, _, _]) rfl rfl rfl rfl rfl (by assumption) (by omega) (map_at ha) rfl ?_
    first | refine Rs.loadR (p := .agg [_, _, _, _]) rfl rfl rfl rfl ?_ | refine Rs.loadP (p := .agg [_, _, _, _]) 0 rfl rfl rfl rfl rfl ?_ | refine Rs.loadP (p := .agg [_, _, _, _]) 1 rfl rfl rfl rfl rfl ?_ | refine Rs.loadP (p := .agg [_, _, _, _]) 2 rfl rfl rfl rfl rfl ?_ | refine Rs.loadP (p := .agg [_, _, _, _]) 3 rfl rfl rfl rfl rfl ?_
    refine Rs.move rfl rfl ?_
    refine Rs.callV rfl rfl rfl rfl rfl (find1_ok a n) (fun p30 hp => ?_)
    obtain rfl := hp
    refine Rs.binB rfl rfl rfl rfl rfl rfl ?_
    refine Rs.nil ?_
    refine Ps.thn ?_
    refine Ps.if rfl (fun hc => ?_) (fun hc => ?_)
    · try replace hc := dc hc
      refine Ps.region rfl ?_
      refine Rs.move rfl rfl ?_
      refine Rs.add rfl rfl rfl (by first | exact W_i64s (by omega) | exact W_i64 (by omega) (by omega) | rfl) ?_
      refine Rs.assign rfl rfl ?_
      refine Rs.nil ?_
      refine Ps.blk ?_
      -- leaf 1 (round1)
      first
        | (have hcl : a.code < n := by (unfold cmpN at hc; split at hc <;> first | assumption | (split at hc <;> simp at hc))
           exact Ps.round ((lo + hi) / 2 + 1, hi) ⟨by show (lo + hi) / 2 + 1 ≤ hi; omega, h2, fun S k b hk => ⟨fun h => by
             rcases Nat.lt_or_ge k ((lo + hi) / 2) with hh | hh
             · have := sorted_lt S hk ha hh; omega
             · obtain rfl : k = (lo + hi) / 2 := by omega
               rw [ha] at hk; cases hk; exact hcl, ((h3 S k b hk).2)⟩⟩ (by show hi - ((lo + hi) / 2 + 1) < hi - lo; omega) ⟨rfl, rfl, trivial⟩ (by repeat' first | exact HasL.nil | refine HasL.cons rfl ?_) (List.Sublist.refl _))
        | (have hcl : n ≤ a.code := by (unfold cmpN at hc; split at hc <;> first | (simp at hc; done) | omega)
           exact Ps.round (lo, (lo + hi) / 2) ⟨by show lo ≤ (lo + hi) / 2; omega, by show (lo + hi) / 2 ≤ l.length; omega, fun S k b hk => ⟨(h3 S k b hk).1, fun h => by
             rcases Nat.lt_or_ge ((lo + hi) / 2) k with hh | hh
             · have := sorted_lt S ha hk hh; omega
             · obtain rfl : k = (lo + hi) / 2 := by have : (lo + hi) / 2 ≤ k := h; omega
               rw [ha] at hk; cases hk; exact hcl⟩⟩ (by show (lo + hi) / 2 - lo < hi - lo; omega) ⟨rfl, rfl, trivial⟩ (by repeat' first | exact HasL.nil | refine HasL.cons rfl ?_) (List.Sublist.refl _))
    · try replace hc := dc hc
      refine Ps.region rfl ?_
      refine Rs.move rfl rfl ?_
      refine Rs.assign rfl rfl ?_
      refine Rs.nil ?_
      refine Ps.blk ?_
      -- leaf 2 (round1)
      first
        | (have hcl : a.code < n := by (unfold cmpN at hc; split at hc <;> first | assumption | (split at hc <;> simp at hc))
           exact Ps.round ((lo + hi) / 2 + 1, hi) ⟨by show (lo + hi) / 2 + 1 ≤ hi; omega, h2, fun S k b hk => ⟨fun h => by
             rcases Nat.lt_or_ge k ((lo + hi) / 2) with hh | hh
             · have := sorted_lt S hk ha hh; omega
             · obtain rfl : k = (lo + hi) / 2 := by omega
               rw [ha] at hk; cases hk; exact hcl, ((h3 S k b hk).2)⟩⟩ (by show hi - ((lo + hi) / 2 + 1) < hi - lo; omega) ⟨rfl, rfl, trivial⟩ (by repeat' first | exact HasL.nil | refine HasL.cons rfl ?_) (List.Sublist.refl _))
        | (have hcl : n ≤ a.code := by (unfold cmpN at hc; split at hc <;> first | (simp at hc; done) | omega)
           exact Ps.round (lo, (lo + hi) / 2) ⟨by show lo ≤ (lo + hi) / 2; omega, by show (lo + hi) / 2 ≤ l.length; omega, fun S k b hk => ⟨(h3 S k b hk).1, fun h => by
             rcases Nat.lt_or_ge ((lo + hi) / 2) k with hh | hh
             · have := sorted_lt S ha hk hh; omega
             · obtain rfl : k = (lo + hi) / 2 := by have : (lo + hi) / 2 ≤ k := h; omega
               rw [ha] at hk; cases hk; exact hcl⟩⟩ (by show (lo + hi) / 2 - lo < hi - lo; omega) ⟨rfl, rfl, trivial⟩ (by repeat' first | exact HasL.nil | refine HasL.cons rfl ?_) (List.Sublist.refl _))
  · try replace hc := dc hc
    refine Ps.exit ?_
    refine Ps.thn_exit ?_
    refine Ps.rnd_exit ?_
    refine Ps.blk_here ?_
    refine Ps.thn ?_
    refine Ps.seq ?_
    refine Ps.region rfl ?_
    refine Rs.move rfl rfl ?_
    refine Rs.move rfl rfl ?_
    refine Rs.move rfl rfl ?_
    refine Rs.binB rfl rfl rfl rfl rfl rfl ?_
    refine Rs.move rfl rfl ?_
    refine Rs.guard1 (w' := false) rfl rfl rfl (fun hg => ?_) (fun hg => ?_)
    · try replace hg := dc hg
      refine Rs.move rfl rfl ?_
      refine Rs.guardT rfl ?_
      refine Rs.move rfl rfl ?_
      refine Rs.guardT rfl ?_
      refine Rs.move rfl rfl ?_
      refine Rs.guardT rfl ?_
      first | refine Rs.indexD (lc := [_, _, _, _]) rfl rfl rfl rfl rfl rfl (map_at (List.getElem?_eq_getElem (show lo < l.length by simp at hg; omega))) rfl ?_ | refine Rs.indexS (lc := [_, _, _, _]) rfl rfl rfl rfl rfl (by assumption) rfl (map_at (List.getElem?_eq_getElem (show lo < l.length by simp at hg; omega))) rfl ?_
      refine Rs.guardT rfl ?_
      first | refine Rs.loadR (p := .agg [_, _, _, _]) rfl rfl rfl rfl ?_ | refine Rs.loadP (p := .agg [_, _, _, _]) 0 rfl rfl rfl rfl rfl ?_ | refine Rs.loadP (p := .agg [_, _, _, _]) 1 rfl rfl rfl rfl rfl ?_ | refine Rs.loadP (p := .agg [_, _, _, _]) 2 rfl rfl rfl rfl rfl ?_ | refine Rs.loadP (p := .agg [_, _, _, _]) 3 rfl rfl rfl rfl rfl ?_
      refine Rs.guardT rfl ?_
      refine Rs.move rfl rfl ?_
      refine Rs.guardT rfl ?_
      refine Rs.callV rfl rfl rfl rfl rfl (find1_ok (l[lo]'(by simp at hg; omega)) n) (fun p46 hp => ?_)
      obtain rfl := hp
      refine Rs.guardT rfl ?_
      refine Rs.binB rfl rfl rfl rfl rfl rfl ?_
      refine Rs.pickT (q := .lit _) rfl rfl rfl rfl ?_
      refine Rs.assign rfl rfl ?_
      refine Rs.assign rfl rfl ?_
      refine Rs.nil ?_
      refine Ps.thn ?_
      refine Ps.ret ?_
      -- leaf 3 (ret)
      obtain rfl : lo = hi := by simp at hc; omega
      refine Ps.finM0 (l := [_, _]) rfl (by refine ResR.tmp rfl ?_; refine ResR.tmp rfl ?_; exact ResR.nil) ⟨rfl, lo, h2, h3, ?_⟩
      show PV.tup [i64P _, boolP _] = _
      first
        | (have hg' : lo < l.length := by simp at hg; omega
           congr 4
           simp only [hitAt, List.getElem?_eq_getElem hg', Option.any_some]
           unfold cmpN
           split
           · simp; omega
           · split
             · simp; omega
             · simp; omega)
        | (have hg' : l.length ≤ lo := by simp at hg; omega
           simp [hitAt, List.getElem?_eq_none hg'])
    · try replace hg := dc hg
      refine Rs.guardF1 rfl rfl rfl ?_
      refine Rs.guardF1 rfl rfl rfl ?_
      refine Rs.guardF1 rfl rfl rfl ?_
      refine Rs.guardF1 rfl rfl rfl ?_
      refine Rs.guardF1 rfl rfl rfl ?_
      refine Rs.guardF1 rfl rfl rfl ?_
      refine Rs.guardF1 rfl rfl rfl ?_
      refine Rs.pickF (q := .lit _) rfl rfl rfl rfl ?_
      refine Rs.assign rfl rfl ?_
      refine Rs.assign rfl rfl ?_
      refine Rs.nil ?_
      refine Ps.thn ?_
      refine Ps.ret ?_
      -- leaf 4 (ret)
      obtain rfl : lo = hi := by simp at hc; omega
      refine Ps.finM0 (l := [_, _]) rfl (by refine ResR.tmp rfl ?_; refine ResR.tmp rfl ?_; exact ResR.nil) ⟨rfl, lo, h2, h3, ?_⟩
      show PV.tup [i64P _, boolP _] = _
      first
        | (have hg' : lo < l.length := by simp at hg; omega
           congr 4
           simp only [hitAt, List.getElem?_eq_getElem hg', Option.any_some]
           unfold cmpN
           split
           · simp; omega
           · split
             · simp; omega
             · simp; omega)
        | (have hg' : l.length ≤ lo := by simp at hg; omega
           simp [hitAt, List.getElem?_eq_none hg'])
end Go.Proofs.YtddaogebacigbaaGreatDoor.RV.T
end
section
open Go Go.Proofs.YtddaogebacigbaaGreatDoor.RV Go.Proofs.YtddaogebacigbaaGreatDoor.XA.Awk Go.Proofs.YtddaogebacigbaaGreatDoor.RV.ChartMath Go.Proofs
namespace Go.Proofs.YtddaogebacigbaaGreatDoor.RV.T
set_option maxRecDepth 100000
set_option linter.unusedVariables false
set_option linter.unusedSimpArgs false
variable {spc : Sp}
theorem findI_ok (l : List Acc) (p : PV) (n : Int) (hp : IsSl 4 (l.map accP) p) (hl : l.length < 1000000) : Fn (cfg spc) 80 [p, u32P n] (fun q => ∃ i : Nat, i ≤ l.length ∧ SplitAt l n i i ∧ q = .tup [i64P i, boolP (hitAt l i n)]) := by
  refine Fn.go Tryz.func80 (L := [(0, _), (1, _)]) rfl rfl rfl (by simp [deepL, hp.deep, deepB]) rfl ?_
  refine Ps.seq ?_
  refine Ps.region rfl ?_
  refine Rs.assign (p := .lit _) rfl rfl ?_
  refine Rs.assign (p := .lit _) rfl rfl ?_
  refine Rs.nil ?_
  refine Ps.thn ?_
  refine Ps.seq ?_
  refine Ps.region rfl ?_
  refine Rs.move rfl rfl ?_
  refine Rs.move rfl rfl ?_
  refine Rs.call2 rfl rfl rfl (bsf_ok l _ n _ hp hl) (fun p8 M8 hp8 => ?_)
  obtain ⟨rfl, i, hi, hs, rfl⟩ := hp8
  refine Rs.extract rfl rfl rfl ?_
  refine Rs.extract rfl rfl rfl ?_
  refine Rs.assign rfl rfl ?_
  refine Rs.assign rfl rfl ?_
  refine Rs.nil ?_
  refine Ps.thn ?_
  refine Ps.ret ?_
  -- leaf 1 (ret)
  refine Ps.finP (l := [_, _]) rfl (by refine ResR.tmp rfl ?_; refine ResR.tmp rfl ?_; exact ResR.nil) (by first | rfl | simp [plainP, plainC, cp_lit, cp_dsl, *]) rfl ?_
  exact ⟨i, hi, hs, rfl⟩
theorem getC_ok (l : List Acc) (p : PV) (n : Int) (S : Sorted l) (hp : IsSl 4 (l.map accP) p) (hl : l.length < 1000000) : Fn (cfg spc) 52 [p, u32P n] (· = getP l n) := by
  refine Fn.go Tryz.func52 (L := [(0, _), (1, _)]) rfl rfl rfl (by simp [deepL, hp.deep, deepB]) rfl ?_
  refine Ps.seq ?_
  refine Ps.region rfl ?_
  refine Rs.alloc (z := .agg [_, _, _, _]) (c := 4) rfl rfl rfl (fun g4 => ?_)
  refine Rs.assign (p := .lit _) rfl rfl ?_
  refine Rs.nil ?_
  refine Ps.thn ?_
  refine Ps.seq ?_
  refine Ps.region rfl ?_
  refine Rs.move rfl rfl ?_
  refine Rs.move rfl rfl ?_
  refine Rs.call0 rfl rfl rfl (findI_ok l p n hp hl) (fun p11 hp => ?_)
  obtain ⟨i, hi, hs, rfl⟩ := hp
  have hf := split_find hs S
  refine Rs.move rfl rfl ?_
  refine Rs.extract rfl rfl rfl ?_
  refine Rs.extract rfl rfl rfl ?_
  refine Rs.assign rfl rfl ?_
  refine Rs.assign rfl rfl ?_
  refine Rs.nil ?_
  refine Ps.thn ?_
  refine Ps.seq ?_
  refine Ps.seq ?_
  refine Ps.region rfl ?_
  refine Rs.move rfl rfl ?_
  refine Rs.not rfl rfl ?_
  refine Rs.nil ?_
  refine Ps.thn ?_
  refine Ps.if rfl (fun hc => ?_) (fun hc => ?_)
  · try replace hc := dc hc
    refine Ps.seq ?_
    refine Ps.region rfl ?_
    refine Rs.buildB (cs := []) (l := [_, _, _, _]) rfl rfl (by first | rfl | simp only [cellsOf]; rfl) rfl ?_
    first | refine Rs.store0 (l' := [.agg [_, _, _, _]]) rfl rfl rfl (by first | rfl | exact storeB_ag rfl rfl rfl (by simp [scalars, sc_int, sc_str, sc_bool, sc_nil, sc_dsl, sc_own, sc_g, sc_f, *]) | exact storeB_fld rfl (by first | assumption | exact cl_g | exact cl_f) (by first | assumption | exact sc_g | exact sc_f) rfl) ?_ | refine Rs.store1 (l' := [.agg [_, _, _, _]]) rfl rfl rfl (by first | rfl | exact storeB_ag rfl rfl rfl (by simp [scalars, sc_int, sc_str, sc_bool, sc_nil, sc_dsl, sc_own, sc_g, sc_f, *]) | exact storeB_fld rfl (by first | assumption | exact cl_g | exact cl_f) (by first | assumption | exact sc_g | exact sc_f) rfl) ?_ | refine Rs.store2 (l' := [.agg [_, _, _, _]]) rfl rfl rfl (by first | rfl | exact storeB_ag rfl rfl rfl (by simp [scalars, sc_int, sc_str, sc_bool, sc_nil, sc_dsl, sc_own, sc_g, sc_f, *]) | exact storeB_fld rfl (by first | assumption | exact cl_g | exact cl_f) (by first | assumption | exact sc_g | exact sc_f) rfl) ?_ | refine Rs.store3 (l' := [.agg [_, _, _, _]]) rfl rfl rfl (by first | rfl | exact storeB_ag rfl rfl rfl (by simp [scalars, sc_int, sc_str, sc_bool, sc_nil, sc_dsl, sc_own, sc_g, sc_f, *]) | exact storeB_fld rfl (by first | assumption | exact cl_g | exact cl_f) (by first | assumption | exact sc_g | exact sc_f) rfl) ?_
    refine Rs.assign (p := .lit _) rfl rfl ?_
    refine Rs.nil ?_
    refine Ps.thn ?_
    refine Ps.ret ?_
    refine Ps.thn_ret ?_
    -- leaf 1 (ret)
    refine Ps.finP (l := [_, _]) rfl (by (first | refine ResR.cell (p := .agg [_, _, _, _]) 0 rfl rfl rfl ?_ | refine ResR.cell (p := .agg [_, _, _, _]) 1 rfl rfl rfl ?_ | refine ResR.cell (p := .agg [_, _, _, _]) 2 rfl rfl rfl ?_ | refine ResR.cell (p := .agg [_, _, _, _]) 3 rfl rfl rfl ?_); refine ResR.tmp rfl ?_; exact ResR.nil) (by first | rfl | simp [plainP, plainC, cp_lit, cp_dsl, *]) rfl ?_
    first
      | (have hb : hitAt l i n = false := by simpa using hc
         rw [hb, if_neg (by decide)] at hf
         simp only [getP, hf]; rfl)
      | (simp only [getP, hf]; rfl)
  · try replace hc := dc hc
    refine Ps.skip ?_
    refine Ps.thn ?_
    refine Ps.seq ?_
    have hb : hitAt l i n = true := by simpa using hc
    have hlt : i < l.length := by
      rcases Nat.lt_or_ge i l.length with h | h
      · exact h
      · simp [hitAt, List.getElem?_eq_none h] at hb
    obtain ⟨x, hx⟩ := at_lt hlt
    rw [hb, if_pos rfl, hx] at hf
    refine Ps.region rfl ?_
    refine Rs.move rfl rfl ?_
    refine Rs.move rfl rfl ?_
    first | refine Rs.indexD (lc := [_, _, _, _]) rfl rfl rfl rfl rfl rfl (map_at hx) rfl ?_ | refine Rs.indexS (lc := [_, _, _, _]) rfl rfl rfl rfl rfl (by assumption) rfl (map_at hx) rfl ?_
    first | refine Rs.loadR (p := .agg [_, _, _, _]) rfl rfl rfl rfl ?_ | refine Rs.loadP (p := .agg [_, _, _, _]) 0 rfl rfl rfl rfl rfl ?_ | refine Rs.loadP (p := .agg [_, _, _, _]) 1 rfl rfl rfl rfl rfl ?_ | refine Rs.loadP (p := .agg [_, _, _, _]) 2 rfl rfl rfl rfl rfl ?_ | refine Rs.loadP (p := .agg [_, _, _, _]) 3 rfl rfl rfl rfl rfl ?_
    first | refine Rs.store0 (l' := [.agg [_, _, _, _]]) rfl rfl rfl (by first | rfl | exact storeB_ag rfl rfl rfl (by simp [scalars, sc_int, sc_str, sc_bool, sc_nil, sc_dsl, sc_own, sc_g, sc_f, *]) | exact storeB_fld rfl (by first | assumption | exact cl_g | exact cl_f) (by first | assumption | exact sc_g | exact sc_f) rfl) ?_ | refine Rs.store1 (l' := [.agg [_, _, _, _]]) rfl rfl rfl (by first | rfl | exact storeB_ag rfl rfl rfl (by simp [scalars, sc_int, sc_str, sc_bool, sc_nil, sc_dsl, sc_own, sc_g, sc_f, *]) | exact storeB_fld rfl (by first | assumption | exact cl_g | exact cl_f) (by first | assumption | exact sc_g | exact sc_f) rfl) ?_ | refine Rs.store2 (l' := [.agg [_, _, _, _]]) rfl rfl rfl (by first | rfl | exact storeB_ag rfl rfl rfl (by simp [scalars, sc_int, sc_str, sc_bool, sc_nil, sc_dsl, sc_own, sc_g, sc_f, *]) | exact storeB_fld rfl (by first | assumption | exact cl_g | exact cl_f) (by first | assumption | exact sc_g | exact sc_f) rfl) ?_ | refine Rs.store3 (l' := [.agg [_, _, _, _]]) rfl rfl rfl (by first | rfl | exact storeB_ag rfl rfl rfl (by simp [scalars, sc_int, sc_str, sc_bool, sc_nil, sc_dsl, sc_own, sc_g, sc_f, *]) | exact storeB_fld rfl (by first | assumption | exact cl_g | exact cl_f) (by first | assumption | exact sc_g | exact sc_f) rfl) ?_
    refine Rs.assign (p := .lit _) rfl rfl ?_
    refine Rs.nil ?_
    refine Ps.thn ?_
    refine Ps.ret ?_
    -- leaf 2 (ret)
    refine Ps.finP (l := [_, _]) rfl (by (first | refine ResR.cell (p := .agg [_, _, _, _]) 0 rfl rfl rfl ?_ | refine ResR.cell (p := .agg [_, _, _, _]) 1 rfl rfl rfl ?_ | refine ResR.cell (p := .agg [_, _, _, _]) 2 rfl rfl rfl ?_ | refine ResR.cell (p := .agg [_, _, _, _]) 3 rfl rfl rfl ?_); refine ResR.tmp rfl ?_; exact ResR.nil) (by first | rfl | simp [plainP, plainC, cp_lit, cp_dsl, *]) rfl ?_
    first
      | (have hb : hitAt l i n = false := by simpa using hc
         rw [hb, if_neg (by decide)] at hf
         simp only [getP, hf]; rfl)
      | (simp only [getP, hf]; rfl)
theorem wayC_ok (l : List Acc) (p : PV) (n : Int) (S : Sorted l) (hp : IsSl 4 (l.map accP) p) (hl : l.length < 1000000) : Fn (cfg spc) 89 [p, u32P n] (· = slP 1 ((way l 13 n).map u32P)) := by
  refine Fn.go Tryz.func89 (L := [(0, _), (1, _)]) rfl rfl rfl (by simp [deepL, hp.deep, deepB]) rfl ?_
  refine Ps.seq ?_
  refine Ps.region rfl ?_
  refine Rs.assign (p := .lit _) rfl rfl ?_
  refine Rs.nil ?_
  refine Ps.thn ?_
  refine Ps.seq ?_
  refine Ps.region rfl ?_
  refine Rs.assign (p := .lit _) rfl rfl ?_
  refine Rs.nil ?_
  refine Ps.thn ?_
  refine Ps.seq ?_
  refine Ps.seq ?_
  refine Ps.region rfl ?_
  refine Rs.move rfl rfl ?_
  refine Rs.move rfl rfl ?_
  refine Rs.call0 rfl rfl rfl (getC_ok l _ _ S hp hl) (fun p11 hp => ?_)
  obtain rfl := hp
  refine Rs.move rfl rfl ?_
  refine Rs.extract rfl rfl rfl ?_
  refine Rs.extract rfl rfl rfl ?_
  refine Rs.alloc (z := .agg [_, _, _, _]) (c := 4) rfl rfl rfl (fun g6 => ?_)
  first | refine Rs.store0 (l' := [.agg [_, _, _, _]]) rfl rfl rfl (by first | rfl | exact storeB_ag rfl rfl rfl (by simp [scalars, sc_int, sc_str, sc_bool, sc_nil, sc_dsl, sc_own, sc_g, sc_f, *]) | exact storeB_fld rfl (by first | assumption | exact cl_g | exact cl_f) (by first | assumption | exact sc_g | exact sc_f) rfl) ?_ | refine Rs.store1 (l' := [.agg [_, _, _, _]]) rfl rfl rfl (by first | rfl | exact storeB_ag rfl rfl rfl (by simp [scalars, sc_int, sc_str, sc_bool, sc_nil, sc_dsl, sc_own, sc_g, sc_f, *]) | exact storeB_fld rfl (by first | assumption | exact cl_g | exact cl_f) (by first | assumption | exact sc_g | exact sc_f) rfl) ?_ | refine Rs.store2 (l' := [.agg [_, _, _, _]]) rfl rfl rfl (by first | rfl | exact storeB_ag rfl rfl rfl (by simp [scalars, sc_int, sc_str, sc_bool, sc_nil, sc_dsl, sc_own, sc_g, sc_f, *]) | exact storeB_fld rfl (by first | assumption | exact cl_g | exact cl_f) (by first | assumption | exact sc_g | exact sc_f) rfl) ?_ | refine Rs.store3 (l' := [.agg [_, _, _, _]]) rfl rfl rfl (by first | rfl | exact storeB_ag rfl rfl rfl (by simp [scalars, sc_int, sc_str, sc_bool, sc_nil, sc_dsl, sc_own, sc_g, sc_f, *]) | exact storeB_fld rfl (by first | assumption | exact cl_g | exact cl_f) (by first | assumption | exact sc_g | exact sc_f) rfl) ?_
  refine Rs.assign rfl rfl ?_
  refine Rs.nil ?_
  refine Ps.thn ?_
  refine Ps.block ?_
  -- loop 1 writes [5, 6, 7, 14, 15, 16, 17, 18, 19, 20, 21, 22, 23, 24, 25, 26, 27, 28, 29, 30, 31, 32]
  refine Ps.loop (J := List Int × Int × Option (Nat × Nat) × Nat) ⟨fun j => j.1.length ≤ 13 ∧ j.1 ++ way l (13 - j.1.length) j.2.1 = way l 13 n ∧ (j.2.2.1 = none ↔ j.1.map u32P = []), fun j => [(5, gP 1 j.2.2.1 (j.1.map u32P)), (6, .ptr j.2.2.2 0 0 0), (7, boolP (find l j.2.1).isSome)], fun j => (j.2.2.2, 0, .blk 4 [accP ((find l j.2.1).getD noAcc)] true) :: (gM 1 j.2.2.1 (j.1.map u32P) ++ []), fun j => 13 - j.1.length⟩ [5, 6, 7, 14, 15, 16, 17, 18, 19, 20, 21, 22, 23, 24, 25, 26, 27, 28, 29, 30, 31, 32] [(13, _), (12, _), (8, _), (11, _), (10, _), (9, _), (4, _), (0, _), (1, _)] ([], n, none, g6) rfl ⟨by simp, rfl, by simp⟩ ⟨rfl, rfl, rfl, trivial⟩ (by repeat' first | exact List.Sublist.refl _ | exact List.nil_sublist _ | exact List.sublist_append_left _ _ | refine List.Sublist.cons_cons _ ?_ | refine List.Sublist.cons _ ?_) (fun j hj => ?_)
  obtain ⟨acc, code, a, g⟩ := j
  obtain ⟨hj, hjc, ha⟩ : acc.length ≤ 13 ∧ acc ++ way l (13 - acc.length) code = way l 13 n ∧ (a = none ↔ acc.map u32P = []) := hj
  dsimp only [List.cons_append, List.nil_append]
  refine Ps.seq ?_
  refine Ps.seq ?_
  refine Ps.region rfl ?_
  refine Rs.move rfl rfl ?_
  refine Rs.move rfl rfl ?_
  refine Rs.guard1 (w' := false) rfl rfl rfl (fun hg => ?_) (fun hg => ?_)
  · try replace hg := dc hg
    refine Rs.move rfl rfl ?_
    refine Rs.guardT rfl ?_
    first | refine Rs.lenD rfl rfl rfl rfl ?_ | refine Rs.lenO rfl rfl rfl rfl ?_ | refine Rs.lenI rfl rfl rfl rfl ?_ | refine Rs.lenA rfl rfl rfl rfl (by assumption) ?_ | refine Rs.lenS rfl rfl rfl rfl (by assumption) ?_
    refine Rs.guardT rfl ?_
    refine Rs.binB rfl rfl rfl rfl rfl rfl ?_
    refine Rs.pickT (q := .lit _) rfl rfl rfl rfl ?_
    refine Rs.nil ?_
    refine Ps.thn ?_
    refine Ps.if rfl (fun hc => ?_) (fun hc => ?_)
    · try replace hc := dc hc
      refine Ps.skip ?_
      refine Ps.thn ?_
      refine Ps.seq ?_
      refine Ps.block ?_
      refine Ps.region rfl ?_
      refine Rs.move rfl rfl ?_
      first | refine Rs.fieldAddrD rfl rfl rfl rfl ?_ | refine Rs.fieldAddrP rfl rfl rfl rfl ?_
      first | refine Rs.loadR rfl rfl rfl rfl ?_ | refine Rs.loadP 0 rfl rfl rfl rfl rfl ?_ | refine Rs.loadP 1 rfl rfl rfl rfl rfl ?_ | refine Rs.loadP 2 rfl rfl rfl rfl rfl ?_ | refine Rs.loadP 3 rfl rfl rfl rfl rfl ?_
      refine Rs.buildSlice (l := [_]) rfl rfl rfl rfl (by first | rfl | simp [deepL, deepB, *]) ?_
      first | refine Rs.append0 1 4 rfl rfl ⟨_, rfl⟩ rfl rfl rfl rfl rfl rfl rfl rfl rfl rfl (by assumption) rfl (by first | rfl | simp [scalarsE, scalars, PV.cells, sc_int, sc_str, sc_bool, sc_nil, sc_dsl, *]) (by simp; omega) (fun a31 ha31 => ?_) | refine Rs.append1 1 4 rfl rfl ⟨_, rfl⟩ rfl rfl rfl rfl rfl rfl rfl rfl rfl rfl (by assumption) rfl (by first | rfl | simp [scalarsE, scalars, PV.cells, sc_int, sc_str, sc_bool, sc_nil, sc_dsl, *]) (by simp; omega) (fun a31 ha31 => ?_) | refine Rs.append2 1 4 rfl rfl ⟨_, rfl⟩ rfl rfl rfl rfl rfl rfl rfl rfl rfl rfl (by assumption) rfl (by first | rfl | simp [scalarsE, scalars, PV.cells, sc_int, sc_str, sc_bool, sc_nil, sc_dsl, *]) (by simp; omega) (fun a31 ha31 => ?_) | refine Rs.append3 1 4 rfl rfl ⟨_, rfl⟩ rfl rfl rfl rfl rfl rfl rfl rfl rfl rfl (by assumption) rfl (by first | rfl | simp [scalarsE, scalars, PV.cells, sc_int, sc_str, sc_bool, sc_nil, sc_dsl, *]) (by simp; omega) (fun a31 ha31 => ?_)
      refine Rs.assign rfl rfl ?_
      refine Rs.nil ?_
      refine Ps.blk ?_
      refine Ps.thn ?_
      refine Ps.seq ?_
      refine Ps.seq ?_
      refine Ps.region rfl ?_
      first | refine Rs.loadR (p := .agg [_, _, _, _]) rfl rfl rfl rfl ?_ | refine Rs.loadP (p := .agg [_, _, _, _]) 0 rfl rfl rfl rfl rfl ?_ | refine Rs.loadP (p := .agg [_, _, _, _]) 1 rfl rfl rfl rfl rfl ?_ | refine Rs.loadP (p := .agg [_, _, _, _]) 2 rfl rfl rfl rfl rfl ?_ | refine Rs.loadP (p := .agg [_, _, _, _]) 3 rfl rfl rfl rfl rfl ?_
      refine Rs.nil ?_
      refine Ps.thn ?_
      refine Ps.region rfl ?_
      refine Rs.alloc (z := .agg [_, _, _, _]) (c := 4) rfl rfl rfl (fun g6 => ?_)
      first | refine Rs.store0 (l' := [.agg [_, _, _, _]]) rfl rfl rfl (by first | rfl | exact storeB_ag rfl rfl rfl (by simp [scalars, sc_int, sc_str, sc_bool, sc_nil, sc_dsl, sc_own, sc_g, sc_f, *]) | exact storeB_fld rfl (by first | assumption | exact cl_g | exact cl_f) (by first | assumption | exact sc_g | exact sc_f) rfl) ?_ | refine Rs.store1 (l' := [.agg [_, _, _, _]]) rfl rfl rfl (by first | rfl | exact storeB_ag rfl rfl rfl (by simp [scalars, sc_int, sc_str, sc_bool, sc_nil, sc_dsl, sc_own, sc_g, sc_f, *]) | exact storeB_fld rfl (by first | assumption | exact cl_g | exact cl_f) (by first | assumption | exact sc_g | exact sc_f) rfl) ?_ | refine Rs.store2 (l' := [.agg [_, _, _, _]]) rfl rfl rfl (by first | rfl | exact storeB_ag rfl rfl rfl (by simp [scalars, sc_int, sc_str, sc_bool, sc_nil, sc_dsl, sc_own, sc_g, sc_f, *]) | exact storeB_fld rfl (by first | assumption | exact cl_g | exact cl_f) (by first | assumption | exact sc_g | exact sc_f) rfl) ?_ | refine Rs.store3 (l' := [.agg [_, _, _, _]]) rfl rfl rfl (by first | rfl | exact storeB_ag rfl rfl rfl (by simp [scalars, sc_int, sc_str, sc_bool, sc_nil, sc_dsl, sc_own, sc_g, sc_f, *]) | exact storeB_fld rfl (by first | assumption | exact cl_g | exact cl_f) (by first | assumption | exact sc_g | exact sc_f) rfl) ?_
      refine Rs.nil ?_
      refine Ps.thn ?_
      refine Ps.region rfl ?_
      refine Rs.move rfl rfl ?_
      first | refine Rs.fieldAddrD (off' := 3) rfl rfl rfl rfl ?_ | refine Rs.fieldAddrP (off' := 3) rfl rfl rfl rfl ?_
      first | refine Rs.loadR rfl rfl rfl rfl ?_ | refine Rs.loadP 0 rfl rfl rfl rfl rfl ?_ | refine Rs.loadP 1 rfl rfl rfl rfl rfl ?_ | refine Rs.loadP 2 rfl rfl rfl rfl rfl ?_ | refine Rs.loadP 3 rfl rfl rfl rfl rfl ?_
      refine Rs.call0 rfl rfl rfl (getC_ok l _ _ S hp hl) (fun p24 hp => ?_)
      obtain rfl := hp
      refine Rs.move rfl rfl ?_
      refine Rs.extract rfl rfl rfl ?_
      refine Rs.extract rfl rfl rfl ?_
      first | refine Rs.store0 (l' := [.agg [_, _, _, _]]) rfl rfl rfl (by first | rfl | exact storeB_ag rfl rfl rfl (by simp [scalars, sc_int, sc_str, sc_bool, sc_nil, sc_dsl, sc_own, sc_g, sc_f, *]) | exact storeB_fld rfl (by first | assumption | exact cl_g | exact cl_f) (by first | assumption | exact sc_g | exact sc_f) rfl) ?_ | refine Rs.store1 (l' := [.agg [_, _, _, _]]) rfl rfl rfl (by first | rfl | exact storeB_ag rfl rfl rfl (by simp [scalars, sc_int, sc_str, sc_bool, sc_nil, sc_dsl, sc_own, sc_g, sc_f, *]) | exact storeB_fld rfl (by first | assumption | exact cl_g | exact cl_f) (by first | assumption | exact sc_g | exact sc_f) rfl) ?_ | refine Rs.store2 (l' := [.agg [_, _, _, _]]) rfl rfl rfl (by first | rfl | exact storeB_ag rfl rfl rfl (by simp [scalars, sc_int, sc_str, sc_bool, sc_nil, sc_dsl, sc_own, sc_g, sc_f, *]) | exact storeB_fld rfl (by first | assumption | exact cl_g | exact cl_f) (by first | assumption | exact sc_g | exact sc_f) rfl) ?_ | refine Rs.store3 (l' := [.agg [_, _, _, _]]) rfl rfl rfl (by first | rfl | exact storeB_ag rfl rfl rfl (by simp [scalars, sc_int, sc_str, sc_bool, sc_nil, sc_dsl, sc_own, sc_g, sc_f, *]) | exact storeB_fld rfl (by first | assumption | exact cl_g | exact cl_f) (by first | assumption | exact sc_g | exact sc_f) rfl) ?_
      refine Rs.assign rfl rfl ?_
      refine Rs.nil ?_
      -- leaf 1 (round1)
      obtain ⟨x, hx⟩ := Option.isSome_iff_exists.1 hg
      have hxc := (find_mem hx).2
      have e0 : (find l code).getD noAcc = x := by rw [hx]; rfl
      have hlt : acc.length ≤ 12 := by simp at hc; omega
      rw [e0, hxc] at ha31 ⊢
      have ee : List.map u32P acc ++ [u32P code] = List.map u32P (acc ++ [code]) := by simp
      rw [ee] at ha31 ⊢
      refine Ps.round (acc ++ [code], x.parent, a31, g6) ⟨by simp; omega, ?_, ha31⟩ (by show 13 - (acc ++ [code]).length < 13 - acc.length; simp; omega) ⟨rfl, rfl, rfl, trivial⟩ (by repeat' first | exact HasL.nil | refine HasL.cons rfl ?_) (by repeat' first | exact List.Sublist.refl _ | exact List.nil_sublist _ | exact List.sublist_append_left _ _ | refine List.Sublist.cons_cons _ ?_ | refine List.Sublist.cons _ ?_)
      show (acc ++ [code]) ++ way l (13 - (acc ++ [code]).length) x.parent = _
      rw [← hjc, show 13 - acc.length = 13 - (acc ++ [code]).length + 1 by simp; omega, way, hx]
      simp
    · try replace hc := dc hc
      refine Ps.exit ?_
      refine Ps.thn_exit ?_
      refine Ps.rnd_exit ?_
      refine Ps.blk_here ?_
      refine Ps.thn ?_
      refine Ps.seq ?_
      refine Ps.region rfl ?_
      refine Rs.move rfl rfl ?_
      refine Rs.assign rfl rfl ?_
      refine Rs.nil ?_
      refine Ps.thn ?_
      refine Ps.ret ?_
      -- leaf 2 (ret)
      refine Ps.finG (a := a) rfl (.tmp rfl .nil) ha (by repeat' first | exact List.Sublist.refl _ | exact List.nil_sublist _ | exact List.sublist_append_left _ _ | refine List.Sublist.cons_cons _ ?_ | refine List.Sublist.cons _ ?_) (by intro q hq; obtain ⟨z, _, rfl⟩ := List.mem_map.1 hq; rfl) (by simp; omega) ?_
      congr 2
      rw [← hjc]
      first
        | (have hs : find l code = none := by simpa using hg
           by_cases h0 : acc.length = 13
           · rw [h0]; simp [way]
           rw [show 13 - acc.length = 13 - acc.length - 1 + 1 by omega, way, hs]; simp)
        | (rw [show 13 - acc.length = 0 by simp at hc; omega, way]; simp)
  · try replace hg := dc hg
    refine Rs.guardF1 rfl rfl rfl ?_
    refine Rs.guardF1 rfl rfl rfl ?_
    refine Rs.pickF (q := .lit _) rfl rfl rfl rfl ?_
    refine Rs.nil ?_
    refine Ps.thn ?_
    refine Ps.ifF rfl ?_
    refine Ps.exit ?_
    refine Ps.thn_exit ?_
    refine Ps.rnd_exit ?_
    refine Ps.blk_here ?_
    refine Ps.thn ?_
    refine Ps.seq ?_
    refine Ps.region rfl ?_
    refine Rs.move rfl rfl ?_
    refine Rs.assign rfl rfl ?_
    refine Rs.nil ?_
    refine Ps.thn ?_
    refine Ps.ret ?_
    -- leaf 3 (ret)
    refine Ps.finG (a := a) rfl (.tmp rfl .nil) ha (by repeat' first | exact List.Sublist.refl _ | exact List.nil_sublist _ | exact List.sublist_append_left _ _ | refine List.Sublist.cons_cons _ ?_ | refine List.Sublist.cons _ ?_) (by intro q hq; obtain ⟨z, _, rfl⟩ := List.mem_map.1 hq; rfl) (by simp; omega) ?_
    congr 2
    rw [← hjc]
    first
      | (have hs : find l code = none := by simpa using hg
         by_cases h0 : acc.length = 13
         · rw [h0]; simp [way]
         rw [show 13 - acc.length = 13 - acc.length - 1 + 1 by omega, way, hs]; simp)
      | (rw [show 13 - acc.length = 0 by simp at hc; omega, way]; simp)
end Go.Proofs.YtddaogebacigbaaGreatDoor.RV.T
end
section
open Go Go.Proofs.YtddaogebacigbaaGreatDoor.RV Go.Proofs.YtddaogebacigbaaGreatDoor.XA.Awk Go.Proofs.YtddaogebacigbaaGreatDoor.RV.ChartMath Go.Proofs
namespace Go.Proofs.YtddaogebacigbaaGreatDoor.RV.T
set_option maxRecDepth 100000
set_option linter.unusedVariables false
set_option linter.unusedSimpArgs false
variable {spc : Sp}
theorem codeC_ok (n : Int) : Fn (cfg spc) 87 [u32P n] (· = boolP (decide (1 ≤ n ∧ n ≤ 999999))) := by
  refine Fn.go Tryz.func87 (L := [(0, _)]) rfl rfl rfl (by first | rfl | (simp [deepL, deepB, *]; done) | (simp [deepL, deepB, *]; rfl)) rfl ?_
  refine Ps.seq ?_
  refine Ps.region rfl ?_
  refine Rs.assign (p := .lit _) rfl rfl ?_
  refine Rs.nil ?_
  refine Ps.thn ?_
  refine Ps.seq ?_
  refine Ps.region rfl ?_
  refine Rs.move rfl rfl ?_
  refine Rs.binB rfl rfl rfl rfl rfl rfl ?_
  refine Rs.move rfl rfl ?_
  refine Rs.guard1 (w' := false) rfl rfl rfl (fun hg => ?_) (fun hg => ?_)
  · try replace hg := dc hg
    refine Rs.move rfl rfl ?_
    refine Rs.guardT rfl ?_
    refine Rs.binB rfl rfl rfl rfl rfl rfl ?_
    refine Rs.pickT (q := .lit _) rfl rfl rfl rfl ?_
    refine Rs.assign rfl rfl ?_
    refine Rs.nil ?_
    refine Ps.thn ?_
    refine Ps.ret ?_
    -- leaf 1 (ret)
    exact Ps.finL rfl rfl rfl (by simp_all [one]; try omega)
  · try replace hg := dc hg
    refine Rs.guardF1 rfl rfl rfl ?_
    refine Rs.pickF (q := .lit _) rfl rfl rfl rfl ?_
    refine Rs.assign rfl rfl ?_
    refine Rs.nil ?_
    refine Ps.thn ?_
    refine Ps.ret ?_
    -- leaf 2 (ret)
    exact Ps.finL rfl rfl rfl (by simp_all [one]; try omega)
structure AccOk (a : Acc) : Prop where
  code : 0 ≤ a.code ∧ a.code ≤ 4294967295
  kind : 0 ≤ a.kind ∧ a.kind ≤ 255
  parent : 0 ≤ a.parent ∧ a.parent ≤ 4294967295
  name : a.name.size ≤ 140737488351232
def chkA : Option Int → List Acc → Int
  | _, [] => 0
  | q, a :: r => if ¬ (1 ≤ a.code ∧ a.code ≤ 999999) then 5 else if q.any (fun m => decide (a.code ≤ m)) = true then 6 else if nmOk a.name.data.toList = false then 10 else if 5 ≤ a.kind then 9 else chkA (some a.code) r
def chkP (l : List Acc) : List Acc → Int
  | [] => 0
  | a :: r => if a.parent = 0 then chkP l r else match find l a.parent with
    | none => 8
    | some b => if b.kind ≠ a.kind then 9 else if 12 < (way l 13 a.code).length then 11 else chkP l r
def chkChart (l : List Acc) : Int := if 200 < l.length then 2 else if chkA none l ≠ 0 then chkA none l else chkP l l
def befA (l : List Acc) : Nat → Option Int
  | 0 => none
  | j + 1 => (l[j]?).map Acc.code
theorem chk_err {l : List Acc} {e : Int} (h : l.length ≤ 200) (h1 : e = chkA none l) (h2 : e ≠ 0) : e = chkChart l := by
  unfold chkChart
  rw [if_neg (by omega), ← h1, if_pos h2]
theorem befA_ge {l : List Acc} {j : Nat} {x y : Acc} (h : 0 < j) (hy : l[j-1]? = some y) (ho : x.code ≤ y.code) : (befA l j).any (fun m => decide (x.code ≤ m)) = true := by
  cases j with
  | zero => omega
  | succ j =>
    have hy : l[j]? = some y := hy
    simp only [befA, hy]
    simpa using ho
theorem chk_two {l : List Acc} {e : Int} (h : l.length ≤ 200) (hA : chkA none l = 0) (h1 : e = chkP l l) : e = chkChart l := by
  unfold chkChart
  rw [if_neg (by omega), hA, if_neg (by decide), h1]
theorem befA_lt {l : List Acc} {j : Nat} {x : Acc} (hj : j < l.length) (ho : ∀ (h : 0 < j) (y : Acc), l[j-1]? = some y → ¬ x.code ≤ y.code) : (befA l j).any (fun m => decide (x.code ≤ m)) = false := by
  cases j with
  | zero => rfl
  | succ j =>
    have := ho (by omega) l[j] (List.getElem?_eq_getElem (by omega))
    simp only [befA, List.getElem?_eq_getElem (show j < l.length by omega)]
    simpa using this
theorem sorted_snoc {l : List Acc} {j : Nat} {x : Acc} (hx : l[j]? = some x) (S : Sorted (l.take j)) (ho : (befA l j).any (fun m => decide (x.code ≤ m)) = false) : Sorted (l.take (j + 1)) := by
  obtain ⟨hj, rfl⟩ := List.getElem?_eq_some_iff.1 hx
  rw [List.take_succ_eq_append_getElem hj]
  unfold Sorted
  rw [List.pairwise_append]
  refine ⟨S, List.pairwise_singleton _ _, fun a ha b hb => ?_⟩
  rw [List.mem_singleton.1 hb]
  cases j with
  | zero => simp at ha
  | succ j =>
    simp only [befA, List.getElem?_eq_getElem (show j < l.length by omega)] at ho
    have h1 : l[j].code < l[j + 1].code := by simpa using ho
    obtain ⟨k, hk⟩ := List.getElem?_of_mem ha
    have hkl := (List.getElem?_eq_some_iff.1 hk).1
    simp at hkl
    rcases Nat.lt_or_ge k j with h | h
    · have := sorted_lt S hk (show (l.take (j + 1))[j]? = some l[j] by rw [List.getElem?_take_of_lt (by omega), List.getElem?_eq_getElem (by omega)]) h
      omega
    · obtain rfl : k = j := by omega
      rw [List.getElem?_take_of_lt (by omega), List.getElem?_eq_getElem (by omega)] at hk
      cases hk
      exact h1
theorem checkC_ok (l : List Acc) (p : PV) (hw : ∀ a ∈ l, AccOk a) (hp : IsSl 4 (l.map accP) p) (hl : l.length < 1000000) : Fn (cfg spc) 71 [p] (· = i64P (chkChart l)) := by
  refine Fn.go Tryz.func71 (L := [(0, _)]) rfl rfl rfl (by simp [deepL, hp.deep, deepB]) rfl ?_
  refine Ps.seq ?_
  refine Ps.region rfl ?_
  refine Rs.assign (p := .lit _) rfl rfl ?_
  refine Rs.nil ?_
  refine Ps.thn ?_
  refine Ps.seq ?_
  refine Ps.seq ?_
  refine Ps.region rfl ?_
  refine Rs.move rfl rfl ?_
  first | refine Rs.lenD rfl rfl rfl rfl ?_ | refine Rs.lenO rfl rfl rfl rfl ?_ | refine Rs.lenI rfl rfl rfl rfl ?_ | refine Rs.lenA rfl rfl rfl rfl (by assumption) ?_ | refine Rs.lenS rfl rfl rfl rfl (by assumption) ?_
  refine Rs.binB rfl rfl rfl rfl rfl rfl ?_
  refine Rs.nil ?_
  refine Ps.thn ?_
  refine Ps.if rfl (fun hc => ?_) (fun hc => ?_)
  · try replace hc := dc hc
    refine Ps.seq ?_
    refine Ps.region rfl ?_
    refine Rs.assign (p := .lit _) rfl rfl ?_
    refine Rs.nil ?_
    refine Ps.thn ?_
    refine Ps.ret ?_
    refine Ps.thn_ret ?_
    -- leaf 1 (ret)
    refine Ps.finL rfl rfl rfl ?_
    refine congrArg (fun n => PV.lit (.int .i64 n)) ?_
    first
      | (unfold chkChart; rw [if_pos (by simp at hc; omega)]; done)
      | (rw [if_pos (by simpa using hc)] at hjc; exact chk_err h200 hjc (by decide))
      | (rw [if_pos (by omega)] at hjc; exact chk_err h200 hjc (by decide))
      | (rw [if_pos (befA_ge (by omega) (List.getElem?_eq_getElem (show j - 1 < l.length by omega)) (by omega))] at hjc; exact chk_err h200 hjc (by decide))
      | (refine chk_two h200 hA ?_
         rw [← hic]
         first
           | (have hn : find l y.parent = none := by simpa using hc
              rw [hn]; done)
           | (rw [if_pos (by rw [hb] at hc; simpa using hc)]; done)
           | (rw [if_pos (by simp at hc; omega)]; done)
           | (rw [List.drop_eq_nil_of_le (by simp at hc; omega), chkP]; done))
  · try replace hc := dc hc
    refine Ps.skip ?_
    refine Ps.thn ?_
    refine Ps.seq ?_
    refine Ps.seq ?_
    refine Ps.region rfl ?_
    refine Rs.move rfl rfl ?_
    first | refine Rs.lenD rfl rfl rfl rfl ?_ | refine Rs.lenO rfl rfl rfl rfl ?_ | refine Rs.lenI rfl rfl rfl rfl ?_ | refine Rs.lenA rfl rfl rfl rfl (by assumption) ?_ | refine Rs.lenS rfl rfl rfl rfl (by assumption) ?_
    refine Rs.move (p := .lit _) rfl rfl ?_
    refine Rs.nil ?_
    refine Ps.thn ?_
    refine Ps.block ?_
    -- loop 1 writes [2, 3, 4, 14, 15, 16, 17, 18, 19, 20, 21, 22, 23, 24, 25, 26, 27, 28, 29, 30, 31, 32, 33, 34, 35, 36, 37, 38, 39, 40, 41, 42, 43, 44, 45, 46, 47]
    have h200 : l.length ≤ 200 := by simp at hc; omega
    refine Ps.loop (J := Nat) ⟨fun j => j ≤ l.length ∧ chkA (befA l j) (l.drop j) = chkA none l ∧ Sorted (l.take j), fun j => [(14, i64P j)], fun _ => [], fun j => l.length - j⟩ [2, 3, 4, 14, 15, 16, 17, 18, 19, 20, 21, 22, 23, 24, 25, 26, 27, 28, 29, 30, 31, 32, 33, 34, 35, 36, 37, 38, 39, 40, 41, 42, 43, 44, 45, 46, 47] [(13, _), (12, _), (11, _), (10, _), (9, _), (0, _)] 0 rfl ⟨Nat.zero_le _, rfl, by simp [Sorted]⟩ ⟨rfl, trivial⟩ (List.nil_sublist _) (fun j hj => ?_)
    obtain ⟨hj, hjc, hS⟩ : j ≤ l.length ∧ chkA (befA l j) (l.drop j) = chkA none l ∧ Sorted (l.take j) := hj
    dsimp only [List.cons_append, List.nil_append]
    refine Ps.seq ?_
    refine Ps.region rfl ?_
    refine Rs.binB rfl rfl rfl rfl rfl rfl ?_
    refine Rs.nil ?_
    refine Ps.thn ?_
    refine Ps.seq ?_
    refine Ps.if rfl (fun hc => ?_) (fun hc => ?_)
    · try replace hc := dc hc
      refine Ps.skip ?_
      refine Ps.thn ?_
      refine Ps.seq ?_
      refine Ps.block ?_
      refine Ps.seq ?_
      have hlt : j < l.length := by simp at hc; omega
      obtain ⟨x, hx⟩ := at_lt hlt
      have hxo := hw x (List.mem_of_getElem? hx)
      rw [drop_at hx, chkA] at hjc
      refine Ps.region rfl ?_
      refine Rs.move rfl rfl ?_
      first | refine Rs.indexD (lc := [_, _, _, _]) rfl rfl rfl rfl rfl rfl (map_at hx) rfl ?_ | refine Rs.indexS (lc := [_, _, _, _]) rfl rfl rfl rfl rfl (by assumption) rfl (map_at hx) rfl ?_
      first | refine Rs.loadR (p := .agg [_, _, _, _]) rfl rfl rfl rfl ?_ | refine Rs.loadP (p := .agg [_, _, _, _]) 0 rfl rfl rfl rfl rfl ?_ | refine Rs.loadP (p := .agg [_, _, _, _]) 1 rfl rfl rfl rfl rfl ?_ | refine Rs.loadP (p := .agg [_, _, _, _]) 2 rfl rfl rfl rfl rfl ?_ | refine Rs.loadP (p := .agg [_, _, _, _]) 3 rfl rfl rfl rfl rfl ?_
      refine Rs.alloc (z := .agg [_, _, _, _]) (c := 4) rfl rfl rfl (fun g4 => ?_)
      refine Rs.assign rfl rfl ?_
      first | refine Rs.store0 (l' := [.agg [_, _, _, _]]) rfl rfl rfl (by first | rfl | exact storeB_ag rfl rfl rfl (by simp [scalars, sc_int, sc_str, sc_bool, sc_nil, sc_dsl, sc_own, sc_g, sc_f, *]) | exact storeB_fld rfl (by first | assumption | exact cl_g | exact cl_f) (by first | assumption | exact sc_g | exact sc_f) rfl) ?_ | refine Rs.store1 (l' := [.agg [_, _, _, _]]) rfl rfl rfl (by first | rfl | exact storeB_ag rfl rfl rfl (by simp [scalars, sc_int, sc_str, sc_bool, sc_nil, sc_dsl, sc_own, sc_g, sc_f, *]) | exact storeB_fld rfl (by first | assumption | exact cl_g | exact cl_f) (by first | assumption | exact sc_g | exact sc_f) rfl) ?_ | refine Rs.store2 (l' := [.agg [_, _, _, _]]) rfl rfl rfl (by first | rfl | exact storeB_ag rfl rfl rfl (by simp [scalars, sc_int, sc_str, sc_bool, sc_nil, sc_dsl, sc_own, sc_g, sc_f, *]) | exact storeB_fld rfl (by first | assumption | exact cl_g | exact cl_f) (by first | assumption | exact sc_g | exact sc_f) rfl) ?_ | refine Rs.store3 (l' := [.agg [_, _, _, _]]) rfl rfl rfl (by first | rfl | exact storeB_ag rfl rfl rfl (by simp [scalars, sc_int, sc_str, sc_bool, sc_nil, sc_dsl, sc_own, sc_g, sc_f, *]) | exact storeB_fld rfl (by first | assumption | exact cl_g | exact cl_f) (by first | assumption | exact sc_g | exact sc_f) rfl) ?_
      refine Rs.nil ?_
      refine Ps.thn ?_
      refine Ps.block ?_
      refine Ps.seq ?_
      refine Ps.region rfl ?_
      first | refine Rs.fieldAddrD (off' := 0) rfl rfl rfl rfl ?_ | refine Rs.fieldAddrP (off' := 0) rfl rfl rfl rfl ?_
      first | refine Rs.loadR rfl rfl rfl rfl ?_ | refine Rs.loadP 0 rfl rfl rfl rfl rfl ?_ | refine Rs.loadP 1 rfl rfl rfl rfl rfl ?_ | refine Rs.loadP 2 rfl rfl rfl rfl rfl ?_ | refine Rs.loadP 3 rfl rfl rfl rfl rfl ?_
      refine Rs.call0 rfl rfl rfl (codeC_ok _) (fun p22 hp => ?_)
      obtain rfl := hp
      refine Rs.not rfl rfl ?_
      refine Rs.assign rfl rfl ?_
      refine Rs.nil ?_
      refine Ps.thn ?_
      refine Ps.if rfl (fun hc => ?_) (fun hc => ?_)
      · try replace hc := dc hc
        refine Ps.seq ?_
        refine Ps.region rfl ?_
        refine Rs.assign (p := .lit _) rfl rfl ?_
        refine Rs.nil ?_
        refine Ps.thn ?_
        refine Ps.ret ?_
        refine Ps.blk_ret ?_
        refine Ps.blk_ret ?_
        refine Ps.thn_ret ?_
        refine Ps.rnd_ret ?_
        refine Ps.blk_ret ?_
        refine Ps.thn_ret ?_
        -- leaf 2 (ret)
        refine Ps.finL rfl rfl rfl ?_
        refine congrArg (fun n => PV.lit (.int .i64 n)) ?_
        first
          | (unfold chkChart; rw [if_pos (by simp at hc; omega)]; done)
          | (rw [if_pos (by simpa using hc)] at hjc; exact chk_err h200 hjc (by decide))
          | (rw [if_pos (by omega)] at hjc; exact chk_err h200 hjc (by decide))
          | (rw [if_pos (befA_ge (by omega) (List.getElem?_eq_getElem (show j - 1 < l.length by omega)) (by omega))] at hjc; exact chk_err h200 hjc (by decide))
          | (refine chk_two h200 hA ?_
             rw [← hic]
             first
               | (have hn : find l y.parent = none := by simpa using hc
                  rw [hn]; done)
               | (rw [if_pos (by rw [hb] at hc; simpa using hc)]; done)
               | (rw [if_pos (by simp at hc; omega)]; done)
               | (rw [List.drop_eq_nil_of_le (by simp at hc; omega), chkP]; done))
      · try replace hc := dc hc
        refine Ps.seq ?_
        have hcode : 1 ≤ x.code ∧ x.code ≤ 999999 := by simpa using hc
        rw [if_neg (by omega)] at hjc
        refine Ps.region rfl ?_
        refine Rs.move rfl rfl ?_
        refine Rs.binB rfl rfl rfl rfl rfl rfl ?_
        refine Rs.move rfl rfl ?_
        refine Rs.guard1 (w' := false) rfl rfl rfl (fun hg => ?_) (fun hg => ?_)
        · try replace hg := dc hg
          refine Rs.move rfl rfl ?_
          refine Rs.guardT rfl ?_
          refine Rs.move rfl rfl ?_
          refine Rs.guardT rfl ?_
          refine Rs.sub rfl rfl rfl (by first | exact W_i64p (by omega) (by omega) | exact W_i64 (by omega) (by omega) | rfl) ?_
          refine Rs.guardT rfl ?_
          first | refine Rs.indexD (lc := [_, _, _, _]) rfl rfl rfl rfl rfl (by omega) (map_at (show l[j-1]? = some (l[j-1]'(by omega)) from List.getElem?_eq_getElem _)) rfl ?_ | refine Rs.indexS (lc := [_, _, _, _]) rfl rfl rfl rfl rfl (by assumption) (by omega) (map_at (show l[j-1]? = some (l[j-1]'(by omega)) from List.getElem?_eq_getElem _)) rfl ?_
          refine Rs.guardT rfl ?_
          first | refine Rs.fieldAddrD (off' := 0) rfl rfl rfl rfl ?_ | refine Rs.fieldAddrP (off' := 0) rfl rfl rfl rfl ?_
          refine Rs.guardT rfl ?_
          first | refine Rs.loadR rfl rfl rfl rfl ?_ | refine Rs.loadP 0 rfl rfl rfl rfl rfl ?_ | refine Rs.loadP 1 rfl rfl rfl rfl rfl ?_ | refine Rs.loadP 2 rfl rfl rfl rfl rfl ?_ | refine Rs.loadP 3 rfl rfl rfl rfl rfl ?_
          refine Rs.guardT rfl ?_
          first | refine Rs.fieldAddrD (off' := 0) rfl rfl rfl rfl ?_ | refine Rs.fieldAddrP (off' := 0) rfl rfl rfl rfl ?_
          refine Rs.guardT rfl ?_
          first | refine Rs.loadR rfl rfl rfl rfl ?_ | refine Rs.loadP 0 rfl rfl rfl rfl rfl ?_ | refine Rs.loadP 1 rfl rfl rfl rfl rfl ?_ | refine Rs.loadP 2 rfl rfl rfl rfl rfl ?_ | refine Rs.loadP 3 rfl rfl rfl rfl rfl ?_
          refine Rs.guardT rfl ?_
          refine Rs.binB rfl rfl rfl rfl rfl rfl ?_
          refine Rs.pickT (q := .lit _) rfl rfl rfl rfl ?_
          refine Rs.assign rfl rfl ?_
          refine Rs.nil ?_
          refine Ps.thn ?_
          refine Ps.if rfl (fun hc => ?_) (fun hc => ?_)
          · try replace hc := dc hc
            refine Ps.seq ?_
            refine Ps.region rfl ?_
            refine Rs.assign (p := .lit _) rfl rfl ?_
            refine Rs.nil ?_
            refine Ps.thn ?_
            refine Ps.ret ?_
            refine Ps.blk_ret ?_
            refine Ps.blk_ret ?_
            refine Ps.thn_ret ?_
            refine Ps.rnd_ret ?_
            refine Ps.blk_ret ?_
            refine Ps.thn_ret ?_
            -- leaf 3 (ret)
            refine Ps.finL rfl rfl rfl ?_
            refine congrArg (fun n => PV.lit (.int .i64 n)) ?_
            first
              | (unfold chkChart; rw [if_pos (by simp at hc; omega)]; done)
              | (rw [if_pos (by simpa using hc)] at hjc; exact chk_err h200 hjc (by decide))
              | (rw [if_pos (by omega)] at hjc; exact chk_err h200 hjc (by decide))
              | (rw [if_pos (befA_ge (by omega) (List.getElem?_eq_getElem (show j - 1 < l.length by omega)) (by omega))] at hjc; exact chk_err h200 hjc (by decide))
              | (refine chk_two h200 hA ?_
                 rw [← hic]
                 first
                   | (have hn : find l y.parent = none := by simpa using hc
                      rw [hn]; done)
                   | (rw [if_pos (by rw [hb] at hc; simpa using hc)]; done)
                   | (rw [if_pos (by simp at hc; omega)]; done)
                   | (rw [List.drop_eq_nil_of_le (by simp at hc; omega), chkP]; done))
          · try replace hc := dc hc
            refine Ps.seq ?_
            have ho : (befA l j).any (fun m => decide (x.code ≤ m)) = false := befA_lt hlt (fun h y hy => by
              first
                | (simp at hg; omega)
                | (rw [List.getElem?_eq_getElem (by omega)] at hy; cases hy; simp at hc; omega))
            rw [if_neg (by rw [ho]; decide)] at hjc
            refine Ps.region rfl ?_
            first | refine Rs.fieldAddrD (off' := 1) rfl rfl rfl rfl ?_ | refine Rs.fieldAddrP (off' := 1) rfl rfl rfl rfl ?_
            first | refine Rs.loadR rfl rfl rfl rfl ?_ | refine Rs.loadP 0 rfl rfl rfl rfl rfl ?_ | refine Rs.loadP 1 rfl rfl rfl rfl rfl ?_ | refine Rs.loadP 2 rfl rfl rfl rfl rfl ?_ | refine Rs.loadP 3 rfl rfl rfl rfl rfl ?_
            refine Rs.call3 rfl rfl rfl rfl (spc.name hxo.name) ?_
            refine Rs.not rfl rfl ?_
            refine Rs.assign rfl rfl ?_
            refine Rs.nil ?_
            refine Ps.thn ?_
            refine Ps.if rfl (fun hc => ?_) (fun hc => ?_)
            · try replace hc := dc hc
              refine Ps.seq ?_
              refine Ps.region rfl ?_
              refine Rs.assign (p := .lit _) rfl rfl ?_
              refine Rs.nil ?_
              refine Ps.thn ?_
              refine Ps.ret ?_
              refine Ps.blk_ret ?_
              refine Ps.blk_ret ?_
              refine Ps.thn_ret ?_
              refine Ps.rnd_ret ?_
              refine Ps.blk_ret ?_
              refine Ps.thn_ret ?_
              -- leaf 4 (ret)
              refine Ps.finL rfl rfl rfl ?_
              refine congrArg (fun n => PV.lit (.int .i64 n)) ?_
              first
                | (unfold chkChart; rw [if_pos (by simp at hc; omega)]; done)
                | (rw [if_pos (by simpa using hc)] at hjc; exact chk_err h200 hjc (by decide))
                | (rw [if_pos (by omega)] at hjc; exact chk_err h200 hjc (by decide))
                | (rw [if_pos (befA_ge (by omega) (List.getElem?_eq_getElem (show j - 1 < l.length by omega)) (by omega))] at hjc; exact chk_err h200 hjc (by decide))
                | (refine chk_two h200 hA ?_
                   rw [← hic]
                   first
                     | (have hn : find l y.parent = none := by simpa using hc
                        rw [hn]; done)
                     | (rw [if_pos (by rw [hb] at hc; simpa using hc)]; done)
                     | (rw [if_pos (by simp at hc; omega)]; done)
                     | (rw [List.drop_eq_nil_of_le (by simp at hc; omega), chkP]; done))
            · try replace hc := dc hc
              refine Ps.seq ?_
              have hnm : nmOk x.name.data.toList = true := by simpa using hc
              rw [if_neg (by rw [hnm]; decide)] at hjc
              refine Ps.region rfl ?_
              first | refine Rs.fieldAddrD (off' := 2) rfl rfl rfl rfl ?_ | refine Rs.fieldAddrP (off' := 2) rfl rfl rfl rfl ?_
              first | refine Rs.loadR rfl rfl rfl rfl ?_ | refine Rs.loadP 0 rfl rfl rfl rfl rfl ?_ | refine Rs.loadP 1 rfl rfl rfl rfl rfl ?_ | refine Rs.loadP 2 rfl rfl rfl rfl rfl ?_ | refine Rs.loadP 3 rfl rfl rfl rfl rfl ?_
              refine Rs.binB rfl rfl rfl rfl rfl rfl ?_
              refine Rs.assign rfl rfl ?_
              refine Rs.nil ?_
              refine Ps.thn ?_
              refine Ps.if rfl (fun hc => ?_) (fun hc => ?_)
              · try replace hc := dc hc
                refine Ps.seq ?_
                refine Ps.region rfl ?_
                refine Rs.assign (p := .lit _) rfl rfl ?_
                refine Rs.nil ?_
                refine Ps.thn ?_
                refine Ps.ret ?_
                refine Ps.blk_ret ?_
                refine Ps.blk_ret ?_
                refine Ps.thn_ret ?_
                refine Ps.rnd_ret ?_
                refine Ps.blk_ret ?_
                refine Ps.thn_ret ?_
                -- leaf 5 (ret)
                refine Ps.finL rfl rfl rfl ?_
                refine congrArg (fun n => PV.lit (.int .i64 n)) ?_
                first
                  | (unfold chkChart; rw [if_pos (by simp at hc; omega)]; done)
                  | (rw [if_pos (by simpa using hc)] at hjc; exact chk_err h200 hjc (by decide))
                  | (rw [if_pos (by omega)] at hjc; exact chk_err h200 hjc (by decide))
                  | (rw [if_pos (befA_ge (by omega) (List.getElem?_eq_getElem (show j - 1 < l.length by omega)) (by omega))] at hjc; exact chk_err h200 hjc (by decide))
                  | (refine chk_two h200 hA ?_
                     rw [← hic]
                     first
                       | (have hn : find l y.parent = none := by simpa using hc
                          rw [hn]; done)
                       | (rw [if_pos (by rw [hb] at hc; simpa using hc)]; done)
                       | (rw [if_pos (by simp at hc; omega)]; done)
                       | (rw [List.drop_eq_nil_of_le (by simp at hc; omega), chkP]; done))
              · try replace hc := dc hc
                refine Ps.skip ?_
                refine Ps.blk ?_
                refine Ps.blk ?_
                refine Ps.thn ?_
                refine Ps.region rfl ?_
                refine Rs.add rfl rfl rfl (by first | exact W_i64s (by omega) | exact W_i64 (by omega) (by omega) | rfl) ?_
                refine Rs.move rfl rfl ?_
                refine Rs.nil ?_
                -- leaf 6 (round1)
                have hk : ¬ 5 ≤ x.kind := by simpa using hc
                rw [if_neg hk] at hjc
                refine Ps.round (j + 1) ⟨hlt, ?_, sorted_snoc hx hS ho⟩ (by show l.length - (j + 1) < l.length - j; omega) ⟨rfl, trivial⟩ (by repeat' first | exact HasL.nil | refine HasL.cons rfl ?_) (List.nil_sublist _)
                show chkA ((l[j]?).map Acc.code) _ = _
                simp only [hx, Option.map_some]
                exact hjc
        · try replace hg := dc hg
          refine Rs.guardF1 rfl rfl rfl ?_
          refine Rs.guardF1 rfl rfl rfl ?_
          refine Rs.guardF1 rfl rfl rfl ?_
          refine Rs.guardF1 rfl rfl rfl ?_
          refine Rs.guardF1 rfl rfl rfl ?_
          refine Rs.guardF1 rfl rfl rfl ?_
          refine Rs.guardF1 rfl rfl rfl ?_
          refine Rs.guardF1 rfl rfl rfl ?_
          refine Rs.pickF (q := .lit _) rfl rfl rfl rfl ?_
          refine Rs.assign rfl rfl ?_
          refine Rs.nil ?_
          refine Ps.thn ?_
          refine Ps.ifF rfl ?_
          refine Ps.seq ?_
          have ho : (befA l j).any (fun m => decide (x.code ≤ m)) = false := befA_lt hlt (fun h y hy => by
            first
              | (simp at hg; omega)
              | (rw [List.getElem?_eq_getElem (by omega)] at hy; cases hy; simp at hc; omega))
          rw [if_neg (by rw [ho]; decide)] at hjc
          refine Ps.region rfl ?_
          first | refine Rs.fieldAddrD (off' := 1) rfl rfl rfl rfl ?_ | refine Rs.fieldAddrP (off' := 1) rfl rfl rfl rfl ?_
          first | refine Rs.loadR rfl rfl rfl rfl ?_ | refine Rs.loadP 0 rfl rfl rfl rfl rfl ?_ | refine Rs.loadP 1 rfl rfl rfl rfl rfl ?_ | refine Rs.loadP 2 rfl rfl rfl rfl rfl ?_ | refine Rs.loadP 3 rfl rfl rfl rfl rfl ?_
          refine Rs.call3 rfl rfl rfl rfl (spc.name hxo.name) ?_
          refine Rs.not rfl rfl ?_
          refine Rs.assign rfl rfl ?_
          refine Rs.nil ?_
          refine Ps.thn ?_
          refine Ps.if rfl (fun hc => ?_) (fun hc => ?_)
          · try replace hc := dc hc
            refine Ps.seq ?_
            refine Ps.region rfl ?_
            refine Rs.assign (p := .lit _) rfl rfl ?_
            refine Rs.nil ?_
            refine Ps.thn ?_
            refine Ps.ret ?_
            refine Ps.blk_ret ?_
            refine Ps.blk_ret ?_
            refine Ps.thn_ret ?_
            refine Ps.rnd_ret ?_
            refine Ps.blk_ret ?_
            refine Ps.thn_ret ?_
            -- leaf 7 (ret)
            refine Ps.finL rfl rfl rfl ?_
            refine congrArg (fun n => PV.lit (.int .i64 n)) ?_
            first
              | (unfold chkChart; rw [if_pos (by simp at hc; omega)]; done)
              | (rw [if_pos (by simpa using hc)] at hjc; exact chk_err h200 hjc (by decide))
              | (rw [if_pos (by omega)] at hjc; exact chk_err h200 hjc (by decide))
              | (rw [if_pos (befA_ge (by omega) (List.getElem?_eq_getElem (show j - 1 < l.length by omega)) (by omega))] at hjc; exact chk_err h200 hjc (by decide))
              | (refine chk_two h200 hA ?_
                 rw [← hic]
                 first
                   | (have hn : find l y.parent = none := by simpa using hc
                      rw [hn]; done)
                   | (rw [if_pos (by rw [hb] at hc; simpa using hc)]; done)
                   | (rw [if_pos (by simp at hc; omega)]; done)
                   | (rw [List.drop_eq_nil_of_le (by simp at hc; omega), chkP]; done))
          · try replace hc := dc hc
            refine Ps.seq ?_
            have hnm : nmOk x.name.data.toList = true := by simpa using hc
            rw [if_neg (by rw [hnm]; decide)] at hjc
            refine Ps.region rfl ?_
            first | refine Rs.fieldAddrD (off' := 2) rfl rfl rfl rfl ?_ | refine Rs.fieldAddrP (off' := 2) rfl rfl rfl rfl ?_
            first | refine Rs.loadR rfl rfl rfl rfl ?_ | refine Rs.loadP 0 rfl rfl rfl rfl rfl ?_ | refine Rs.loadP 1 rfl rfl rfl rfl rfl ?_ | refine Rs.loadP 2 rfl rfl rfl rfl rfl ?_ | refine Rs.loadP 3 rfl rfl rfl rfl rfl ?_
            refine Rs.binB rfl rfl rfl rfl rfl rfl ?_
            refine Rs.assign rfl rfl ?_
            refine Rs.nil ?_
            refine Ps.thn ?_
            refine Ps.if rfl (fun hc => ?_) (fun hc => ?_)
            · try replace hc := dc hc
              refine Ps.seq ?_
              refine Ps.region rfl ?_
              refine Rs.assign (p := .lit _) rfl rfl ?_
              refine Rs.nil ?_
              refine Ps.thn ?_
              refine Ps.ret ?_
              refine Ps.blk_ret ?_
              refine Ps.blk_ret ?_
              refine Ps.thn_ret ?_
              refine Ps.rnd_ret ?_
              refine Ps.blk_ret ?_
              refine Ps.thn_ret ?_
              -- leaf 8 (ret)
              refine Ps.finL rfl rfl rfl ?_
              refine congrArg (fun n => PV.lit (.int .i64 n)) ?_
              first
                | (unfold chkChart; rw [if_pos (by simp at hc; omega)]; done)
                | (rw [if_pos (by simpa using hc)] at hjc; exact chk_err h200 hjc (by decide))
                | (rw [if_pos (by omega)] at hjc; exact chk_err h200 hjc (by decide))
                | (rw [if_pos (befA_ge (by omega) (List.getElem?_eq_getElem (show j - 1 < l.length by omega)) (by omega))] at hjc; exact chk_err h200 hjc (by decide))
                | (refine chk_two h200 hA ?_
                   rw [← hic]
                   first
                     | (have hn : find l y.parent = none := by simpa using hc
                        rw [hn]; done)
                     | (rw [if_pos (by rw [hb] at hc; simpa using hc)]; done)
                     | (rw [if_pos (by simp at hc; omega)]; done)
                     | (rw [List.drop_eq_nil_of_le (by simp at hc; omega), chkP]; done))
            · try replace hc := dc hc
              refine Ps.skip ?_
              refine Ps.blk ?_
              refine Ps.blk ?_
              refine Ps.thn ?_
              refine Ps.region rfl ?_
              refine Rs.add rfl rfl rfl (by first | exact W_i64s (by omega) | exact W_i64 (by omega) (by omega) | rfl) ?_
              refine Rs.move rfl rfl ?_
              refine Rs.nil ?_
              -- leaf 9 (round1)
              have hk : ¬ 5 ≤ x.kind := by simpa using hc
              rw [if_neg hk] at hjc
              refine Ps.round (j + 1) ⟨hlt, ?_, sorted_snoc hx hS ho⟩ (by show l.length - (j + 1) < l.length - j; omega) ⟨rfl, trivial⟩ (by repeat' first | exact HasL.nil | refine HasL.cons rfl ?_) (List.nil_sublist _)
              show chkA ((l[j]?).map Acc.code) _ = _
              simp only [hx, Option.map_some]
              exact hjc
    · try replace hc := dc hc
      refine Ps.exit ?_
      refine Ps.thn_exit ?_
      refine Ps.rnd_exit ?_
      refine Ps.blk_here ?_
      refine Ps.thn ?_
      refine Ps.seq ?_
      refine Ps.seq ?_
      refine Ps.region rfl ?_
      refine Rs.move rfl rfl ?_
      first | refine Rs.lenD rfl rfl rfl rfl ?_ | refine Rs.lenO rfl rfl rfl rfl ?_ | refine Rs.lenI rfl rfl rfl rfl ?_ | refine Rs.lenA rfl rfl rfl rfl (by assumption) ?_ | refine Rs.lenS rfl rfl rfl rfl (by assumption) ?_
      refine Rs.move (p := .lit _) rfl rfl ?_
      refine Rs.nil ?_
      refine Ps.thn ?_
      refine Ps.block ?_
      -- loop 2 writes [2, 6, 7, 8, 50, 51, 52, 53, 54, 55, 56, 57, 58, 59, 60, 61, 62, 63, 64, 65, 66, 67, 68, 69, 70, 71, 72, 73, 74, 75, 76, 77, 78, 79, 80]
      have hjl : l.length ≤ j := by simp at hc; omega
      have hS : Sorted l := by rw [List.take_of_length_le hjl] at hS; exact hS
      have hA : chkA none l = 0 := by rw [← hjc, List.drop_eq_nil_of_le hjl, chkA]
      clear hjc
      refine Ps.loop (J := Nat) ⟨fun i => i ≤ l.length ∧ chkP l (l.drop i) = chkP l l, fun i => [(50, i64P i)], fun _ => [], fun i => l.length - i⟩ [2, 6, 7, 8, 50, 51, 52, 53, 54, 55, 56, 57, 58, 59, 60, 61, 62, 63, 64, 65, 66, 67, 68, 69, 70, 71, 72, 73, 74, 75, 76, 77, 78, 79, 80] [(49, _), (48, _), (15, _), (14, _), (13, _), (12, _), (11, _), (10, _), (9, _), (0, _)] 0 rfl ⟨Nat.zero_le _, rfl⟩ ⟨rfl, trivial⟩ (List.nil_sublist _) (fun i hi => ?_)
      obtain ⟨hi, hic⟩ : i ≤ l.length ∧ chkP l (l.drop i) = chkP l l := hi
      dsimp only [List.cons_append, List.nil_append]
      refine Ps.seq ?_
      refine Ps.region rfl ?_
      refine Rs.binB rfl rfl rfl rfl rfl rfl ?_
      refine Rs.nil ?_
      refine Ps.thn ?_
      refine Ps.seq ?_
      refine Ps.if rfl (fun hc => ?_) (fun hc => ?_)
      · try replace hc := dc hc
        refine Ps.skip ?_
        refine Ps.thn ?_
        refine Ps.seq ?_
        refine Ps.block ?_
        refine Ps.seq ?_
        have hlt2 : i < l.length := by simp at hc; omega
        obtain ⟨y, hy⟩ := at_lt hlt2
        rw [drop_at hy, chkP] at hic
        refine Ps.region rfl ?_
        first | refine Rs.indexD (lc := [_, _, _, _]) rfl rfl rfl rfl rfl rfl (map_at hy) rfl ?_ | refine Rs.indexS (lc := [_, _, _, _]) rfl rfl rfl rfl rfl (by assumption) rfl (map_at hy) rfl ?_
        first | refine Rs.loadR (p := .agg [_, _, _, _]) rfl rfl rfl rfl ?_ | refine Rs.loadP (p := .agg [_, _, _, _]) 0 rfl rfl rfl rfl rfl ?_ | refine Rs.loadP (p := .agg [_, _, _, _]) 1 rfl rfl rfl rfl rfl ?_ | refine Rs.loadP (p := .agg [_, _, _, _]) 2 rfl rfl rfl rfl rfl ?_ | refine Rs.loadP (p := .agg [_, _, _, _]) 3 rfl rfl rfl rfl rfl ?_
        refine Rs.alloc (z := .agg [_, _, _, _]) (c := 4) rfl rfl rfl (fun g6 => ?_)
        first | refine Rs.store0 (l' := [.agg [_, _, _, _]]) rfl rfl rfl (by first | rfl | exact storeB_ag rfl rfl rfl (by simp [scalars, sc_int, sc_str, sc_bool, sc_nil, sc_dsl, sc_own, sc_g, sc_f, *]) | exact storeB_fld rfl (by first | assumption | exact cl_g | exact cl_f) (by first | assumption | exact sc_g | exact sc_f) rfl) ?_ | refine Rs.store1 (l' := [.agg [_, _, _, _]]) rfl rfl rfl (by first | rfl | exact storeB_ag rfl rfl rfl (by simp [scalars, sc_int, sc_str, sc_bool, sc_nil, sc_dsl, sc_own, sc_g, sc_f, *]) | exact storeB_fld rfl (by first | assumption | exact cl_g | exact cl_f) (by first | assumption | exact sc_g | exact sc_f) rfl) ?_ | refine Rs.store2 (l' := [.agg [_, _, _, _]]) rfl rfl rfl (by first | rfl | exact storeB_ag rfl rfl rfl (by simp [scalars, sc_int, sc_str, sc_bool, sc_nil, sc_dsl, sc_own, sc_g, sc_f, *]) | exact storeB_fld rfl (by first | assumption | exact cl_g | exact cl_f) (by first | assumption | exact sc_g | exact sc_f) rfl) ?_ | refine Rs.store3 (l' := [.agg [_, _, _, _]]) rfl rfl rfl (by first | rfl | exact storeB_ag rfl rfl rfl (by simp [scalars, sc_int, sc_str, sc_bool, sc_nil, sc_dsl, sc_own, sc_g, sc_f, *]) | exact storeB_fld rfl (by first | assumption | exact cl_g | exact cl_f) (by first | assumption | exact sc_g | exact sc_f) rfl) ?_
        refine Rs.nil ?_
        refine Ps.thn ?_
        refine Ps.seq ?_
        refine Ps.region rfl ?_
        first | refine Rs.fieldAddrD (off' := 3) rfl rfl rfl rfl ?_ | refine Rs.fieldAddrP (off' := 3) rfl rfl rfl rfl ?_
        first | refine Rs.loadR rfl rfl rfl rfl ?_ | refine Rs.loadP 0 rfl rfl rfl rfl rfl ?_ | refine Rs.loadP 1 rfl rfl rfl rfl rfl ?_ | refine Rs.loadP 2 rfl rfl rfl rfl rfl ?_ | refine Rs.loadP 3 rfl rfl rfl rfl rfl ?_
        refine Rs.binB rfl rfl rfl rfl rfl rfl ?_
        refine Rs.nil ?_
        refine Ps.thn ?_
        refine Ps.if rfl (fun hc => ?_) (fun hc => ?_)
        · try replace hc := dc hc
          refine Ps.seq ?_
          rw [if_neg (by simpa using hc)] at hic
          refine Ps.region rfl ?_
          refine Rs.move rfl rfl ?_
          first | refine Rs.fieldAddrD (off' := 3) rfl rfl rfl rfl ?_ | refine Rs.fieldAddrP (off' := 3) rfl rfl rfl rfl ?_
          first | refine Rs.loadR rfl rfl rfl rfl ?_ | refine Rs.loadP 0 rfl rfl rfl rfl rfl ?_ | refine Rs.loadP 1 rfl rfl rfl rfl rfl ?_ | refine Rs.loadP 2 rfl rfl rfl rfl rfl ?_ | refine Rs.loadP 3 rfl rfl rfl rfl rfl ?_
          refine Rs.call0 rfl rfl rfl (getC_ok l _ _ hS hp hl) (fun p61 hp => ?_)
          obtain rfl := hp
          refine Rs.move rfl rfl ?_
          refine Rs.extract rfl rfl rfl ?_
          refine Rs.extract rfl rfl rfl ?_
          refine Rs.alloc (z := .agg [_, _, _, _]) (c := 4) rfl rfl rfl (fun g7 => ?_)
          first | refine Rs.store0 (l' := [.agg [_, _, _, _]]) rfl rfl rfl (by first | rfl | exact storeB_ag rfl rfl rfl (by simp [scalars, sc_int, sc_str, sc_bool, sc_nil, sc_dsl, sc_own, sc_g, sc_f, *]) | exact storeB_fld rfl (by first | assumption | exact cl_g | exact cl_f) (by first | assumption | exact sc_g | exact sc_f) rfl) ?_ | refine Rs.store1 (l' := [.agg [_, _, _, _]]) rfl rfl rfl (by first | rfl | exact storeB_ag rfl rfl rfl (by simp [scalars, sc_int, sc_str, sc_bool, sc_nil, sc_dsl, sc_own, sc_g, sc_f, *]) | exact storeB_fld rfl (by first | assumption | exact cl_g | exact cl_f) (by first | assumption | exact sc_g | exact sc_f) rfl) ?_ | refine Rs.store2 (l' := [.agg [_, _, _, _]]) rfl rfl rfl (by first | rfl | exact storeB_ag rfl rfl rfl (by simp [scalars, sc_int, sc_str, sc_bool, sc_nil, sc_dsl, sc_own, sc_g, sc_f, *]) | exact storeB_fld rfl (by first | assumption | exact cl_g | exact cl_f) (by first | assumption | exact sc_g | exact sc_f) rfl) ?_ | refine Rs.store3 (l' := [.agg [_, _, _, _]]) rfl rfl rfl (by first | rfl | exact storeB_ag rfl rfl rfl (by simp [scalars, sc_int, sc_str, sc_bool, sc_nil, sc_dsl, sc_own, sc_g, sc_f, *]) | exact storeB_fld rfl (by first | assumption | exact cl_g | exact cl_f) (by first | assumption | exact sc_g | exact sc_f) rfl) ?_
          refine Rs.assign rfl rfl ?_
          refine Rs.nil ?_
          refine Ps.thn ?_
          refine Ps.block ?_
          refine Ps.seq ?_
          refine Ps.region rfl ?_
          refine Rs.move rfl rfl ?_
          refine Rs.not rfl rfl ?_
          refine Rs.assign rfl rfl ?_
          refine Rs.nil ?_
          refine Ps.thn ?_
          refine Ps.if rfl (fun hc => ?_) (fun hc => ?_)
          · try replace hc := dc hc
            refine Ps.seq ?_
            refine Ps.region rfl ?_
            refine Rs.assign (p := .lit _) rfl rfl ?_
            refine Rs.nil ?_
            refine Ps.thn ?_
            refine Ps.ret ?_
            refine Ps.blk_ret ?_
            refine Ps.blk_ret ?_
            refine Ps.thn_ret ?_
            refine Ps.rnd_ret ?_
            refine Ps.blk_ret ?_
            refine Ps.thn_ret ?_
            -- leaf 10 (ret)
            refine Ps.finL rfl rfl rfl ?_
            refine congrArg (fun n => PV.lit (.int .i64 n)) ?_
            first
              | (unfold chkChart; rw [if_pos (by simp at hc; omega)]; done)
              | (rw [if_pos (by simpa using hc)] at hjc; exact chk_err h200 hjc (by decide))
              | (rw [if_pos (by omega)] at hjc; exact chk_err h200 hjc (by decide))
              | (rw [if_pos (befA_ge (by omega) (List.getElem?_eq_getElem (show j - 1 < l.length by omega)) (by omega))] at hjc; exact chk_err h200 hjc (by decide))
              | (refine chk_two h200 hA ?_
                 rw [← hic]
                 first
                   | (have hn : find l y.parent = none := by simpa using hc
                      rw [hn]; done)
                   | (rw [if_pos (by rw [hb] at hc; simpa using hc)]; done)
                   | (rw [if_pos (by simp at hc; omega)]; done)
                   | (rw [List.drop_eq_nil_of_le (by simp at hc; omega), chkP]; done))
          · try replace hc := dc hc
            refine Ps.seq ?_
            obtain ⟨b, hb⟩ := Option.isSome_iff_exists.1 (show (find l y.parent).isSome = true by simpa using hc)
            rw [hb] at hic
            dsimp only at hic
            refine Ps.region rfl ?_
            first | refine Rs.fieldAddrD (off' := 2) rfl rfl rfl rfl ?_ | refine Rs.fieldAddrP (off' := 2) rfl rfl rfl rfl ?_
            first | refine Rs.loadR rfl rfl rfl rfl ?_ | refine Rs.loadP 0 rfl rfl rfl rfl rfl ?_ | refine Rs.loadP 1 rfl rfl rfl rfl rfl ?_ | refine Rs.loadP 2 rfl rfl rfl rfl rfl ?_ | refine Rs.loadP 3 rfl rfl rfl rfl rfl ?_
            first | refine Rs.fieldAddrD (off' := 2) rfl rfl rfl rfl ?_ | refine Rs.fieldAddrP (off' := 2) rfl rfl rfl rfl ?_
            first | refine Rs.loadR rfl rfl rfl rfl ?_ | refine Rs.loadP 0 rfl rfl rfl rfl rfl ?_ | refine Rs.loadP 1 rfl rfl rfl rfl rfl ?_ | refine Rs.loadP 2 rfl rfl rfl rfl rfl ?_ | refine Rs.loadP 3 rfl rfl rfl rfl rfl ?_
            refine Rs.binB rfl rfl rfl rfl rfl rfl ?_
            refine Rs.assign rfl rfl ?_
            refine Rs.nil ?_
            refine Ps.thn ?_
            refine Ps.if rfl (fun hc => ?_) (fun hc => ?_)
            · try replace hc := dc hc
              refine Ps.seq ?_
              refine Ps.region rfl ?_
              refine Rs.assign (p := .lit _) rfl rfl ?_
              refine Rs.nil ?_
              refine Ps.thn ?_
              refine Ps.ret ?_
              refine Ps.blk_ret ?_
              refine Ps.blk_ret ?_
              refine Ps.thn_ret ?_
              refine Ps.rnd_ret ?_
              refine Ps.blk_ret ?_
              refine Ps.thn_ret ?_
              -- leaf 11 (ret)
              refine Ps.finL rfl rfl rfl ?_
              refine congrArg (fun n => PV.lit (.int .i64 n)) ?_
              first
                | (unfold chkChart; rw [if_pos (by simp at hc; omega)]; done)
                | (rw [if_pos (by simpa using hc)] at hjc; exact chk_err h200 hjc (by decide))
                | (rw [if_pos (by omega)] at hjc; exact chk_err h200 hjc (by decide))
                | (rw [if_pos (befA_ge (by omega) (List.getElem?_eq_getElem (show j - 1 < l.length by omega)) (by omega))] at hjc; exact chk_err h200 hjc (by decide))
                | (refine chk_two h200 hA ?_
                   rw [← hic]
                   first
                     | (have hn : find l y.parent = none := by simpa using hc
                        rw [hn]; done)
                     | (rw [if_pos (by rw [hb] at hc; simpa using hc)]; done)
                     | (rw [if_pos (by simp at hc; omega)]; done)
                     | (rw [List.drop_eq_nil_of_le (by simp at hc; omega), chkP]; done))
            · try replace hc := dc hc
              refine Ps.seq ?_
              rw [if_neg (by rw [hb] at hc; simpa using hc)] at hic
              refine Ps.region rfl ?_
              refine Rs.move rfl rfl ?_
              first | refine Rs.fieldAddrD (off' := 0) rfl rfl rfl rfl ?_ | refine Rs.fieldAddrP (off' := 0) rfl rfl rfl rfl ?_
              first | refine Rs.loadR rfl rfl rfl rfl ?_ | refine Rs.loadP 0 rfl rfl rfl rfl rfl ?_ | refine Rs.loadP 1 rfl rfl rfl rfl rfl ?_ | refine Rs.loadP 2 rfl rfl rfl rfl rfl ?_ | refine Rs.loadP 3 rfl rfl rfl rfl rfl ?_
              refine Rs.call0 rfl rfl rfl (wayC_ok l _ _ hS hp hl) (fun p77 hp => ?_)
              obtain rfl := hp
              have hwl := slP_is 1 ((way l 13 y.code).map u32P)
              first | refine Rs.lenD rfl rfl rfl rfl ?_ | refine Rs.lenO rfl rfl rfl rfl ?_ | refine Rs.lenI rfl rfl rfl rfl ?_ | refine Rs.lenA rfl rfl rfl rfl (by assumption) ?_ | refine Rs.lenS rfl rfl rfl rfl (by assumption) ?_
              refine Rs.binB rfl rfl rfl rfl rfl rfl ?_
              refine Rs.assign rfl rfl ?_
              refine Rs.nil ?_
              refine Ps.thn ?_
              refine Ps.if rfl (fun hc => ?_) (fun hc => ?_)
              · try replace hc := dc hc
                refine Ps.seq ?_
                refine Ps.region rfl ?_
                refine Rs.assign (p := .lit _) rfl rfl ?_
                refine Rs.nil ?_
                refine Ps.thn ?_
                refine Ps.ret ?_
                refine Ps.blk_ret ?_
                refine Ps.blk_ret ?_
                refine Ps.thn_ret ?_
                refine Ps.rnd_ret ?_
                refine Ps.blk_ret ?_
                refine Ps.thn_ret ?_
                -- leaf 12 (ret)
                refine Ps.finL rfl rfl rfl ?_
                refine congrArg (fun n => PV.lit (.int .i64 n)) ?_
                first
                  | (unfold chkChart; rw [if_pos (by simp at hc; omega)]; done)
                  | (rw [if_pos (by simpa using hc)] at hjc; exact chk_err h200 hjc (by decide))
                  | (rw [if_pos (by omega)] at hjc; exact chk_err h200 hjc (by decide))
                  | (rw [if_pos (befA_ge (by omega) (List.getElem?_eq_getElem (show j - 1 < l.length by omega)) (by omega))] at hjc; exact chk_err h200 hjc (by decide))
                  | (refine chk_two h200 hA ?_
                     rw [← hic]
                     first
                       | (have hn : find l y.parent = none := by simpa using hc
                          rw [hn]; done)
                       | (rw [if_pos (by rw [hb] at hc; simpa using hc)]; done)
                       | (rw [if_pos (by simp at hc; omega)]; done)
                       | (rw [List.drop_eq_nil_of_le (by simp at hc; omega), chkP]; done))
              · try replace hc := dc hc
                refine Ps.skip ?_
                refine Ps.blk ?_
                refine Ps.blk ?_
                refine Ps.thn ?_
                refine Ps.region rfl ?_
                refine Rs.add rfl rfl rfl (by first | exact W_i64s (by omega) | exact W_i64 (by omega) (by omega) | rfl) ?_
                refine Rs.move rfl rfl ?_
                refine Rs.nil ?_
                -- leaf 13 (round2)
                refine Ps.round (i + 1) ⟨hlt2, ?_⟩ (by show l.length - (i + 1) < l.length - i; omega) ⟨rfl, trivial⟩ (by repeat' first | exact HasL.nil | refine HasL.cons rfl ?_) (List.nil_sublist _)
                rw [← hic]
                first
                  | (rw [if_pos (by simpa using hc)]; done)
                  | (rw [if_neg (by simp at hc; omega)]; done)
        · try replace hc := dc hc
          refine Ps.skip ?_
          refine Ps.blk ?_
          refine Ps.thn ?_
          refine Ps.region rfl ?_
          refine Rs.add rfl rfl rfl (by first | exact W_i64s (by omega) | exact W_i64 (by omega) (by omega) | rfl) ?_
          refine Rs.move rfl rfl ?_
          refine Rs.nil ?_
          -- leaf 14 (round2)
          refine Ps.round (i + 1) ⟨hlt2, ?_⟩ (by show l.length - (i + 1) < l.length - i; omega) ⟨rfl, trivial⟩ (by repeat' first | exact HasL.nil | refine HasL.cons rfl ?_) (List.nil_sublist _)
          rw [← hic]
          first
            | (rw [if_pos (by simpa using hc)]; done)
            | (rw [if_neg (by simp at hc; omega)]; done)
      · try replace hc := dc hc
        refine Ps.exit ?_
        refine Ps.thn_exit ?_
        refine Ps.rnd_exit ?_
        refine Ps.blk_here ?_
        refine Ps.thn ?_
        refine Ps.seq ?_
        refine Ps.region rfl ?_
        refine Rs.assign (p := .lit _) rfl rfl ?_
        refine Rs.nil ?_
        refine Ps.thn ?_
        refine Ps.ret ?_
        -- leaf 15 (ret)
        refine Ps.finL rfl rfl rfl ?_
        refine congrArg (fun n => PV.lit (.int .i64 n)) ?_
        first
          | (unfold chkChart; rw [if_pos (by simp at hc; omega)]; done)
          | (rw [if_pos (by simpa using hc)] at hjc; exact chk_err h200 hjc (by decide))
          | (rw [if_pos (by omega)] at hjc; exact chk_err h200 hjc (by decide))
          | (rw [if_pos (befA_ge (by omega) (List.getElem?_eq_getElem (show j - 1 < l.length by omega)) (by omega))] at hjc; exact chk_err h200 hjc (by decide))
          | (refine chk_two h200 hA ?_
             rw [← hic]
             first
               | (have hn : find l y.parent = none := by simpa using hc
                  rw [hn]; done)
               | (rw [if_pos (by rw [hb] at hc; simpa using hc)]; done)
               | (rw [if_pos (by simp at hc; omega)]; done)
               | (rw [List.drop_eq_nil_of_le (by simp at hc; omega), chkP]; done))
end Go.Proofs.YtddaogebacigbaaGreatDoor.RV.T
end
