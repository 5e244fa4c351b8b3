/- The runs of this program's functions, in one text (part 1 of 1). Conditions: none. -/
import Derived.Test.YthabndifdgafbaaGreatDoorCards
import Derived.Test.YthabndifdgafbaaGreatDoorTie
import Derived.WalkKit
import Derived.ProofKit
import Derived.OpenShut
import Derived.ShutString
import Derived.ChangeOld
import Derived.Below
import Derived.SizedLaws
import Derived.Deep.DeepHandedRow
import Derived.Deep.DeepWitnessRowRef
import Derived.Lib.LaidTab
import Derived.Lib.LaidIn
import Derived.Lib.LaidSlice
import Derived.Stop.LaidErr
import Derived.SliceStrings
import Derived.KernelRfl
import Derived.Defers
import Derived.Recover
import Derived.Test.YthabndifdgafbaaGreatDoorPkA2
import Derived.Test.YthabndifdgafbaaGreatDoorPkD1
section
namespace Go.Proofs.YthabndifdgafbaaGreatDoor.Glo
open Go.ChangeShapes Go.WideShapes Go.ChangeAt Go.RowKit Go.Lib
theorem var_cell {P : Program} {W : World} {n : String} {v : Value} {g : Nat} (h : W.var? P n = some #[v]) (hg : P.globalNamed n = some g) : W.cell? ⟨g, 0, none⟩ = some v := by
  unfold World.var? at h
  rw [hg] at h
  simp only [Option.bind_some] at h
  split at h
  · rename_i cs t f hc
    obtain rfl := Option.some.inj h
    simp [World.cell?, hc]
  · cases h
theorem own : ownKnob Tryz.prog.godebug = none := by kernel_rfl
theorem star : "*" ++ "errors.errorString" = "*errors.errorString" := by decide
theorem rowErr (u : TypeId) (h : Tryz.prog.typeName? 3 u = some "*errors.errorString") : u = 312 :=
  typeName_ptr_named (nm := "errors.errorString") (by rw [star]; kernel_rfl) (by kernel_rfl) (by decide) u (by rw [star]; exact h)
def laid0 : List (String × DataW Unit) := [("math/bits.deBruijn32tab", Rows.laid_math_bits_deBruijn32tab), ("math/bits.deBruijn64tab", Rows.laid_math_bits_deBruijn64tab), ("internal/strconv.uint64pow10", Rows.laid_internal_strconv_uint64pow10), ("strconv.ErrRange", Rows.laid_strconv_ErrRange), ("strconv.ErrSyntax", Rows.laid_strconv_ErrSyntax), ("transposal/day.months", Rows.laid_transposal_day_months), ("transposal/script.words", Rows.laid_transposal_script_words)]
theorem glob0 {W : World} (h : laidMet Tryz.prog laid0 W) : XA.Glob W := by
  have hm : Lib.TabIs Tryz.prog W "transposal/day.months" .i64 XA.monthsL := Lib.tabIs_of_head (rest := _) (g := 2) (t := 273) (e := 3) (n := 12) (by kernel_rfl) (by kernel_rfl) Tryz.underlying273 Tryz.underlying3 (by kernel_rfl) (by kernel_rfl) (h.tail.tail.tail.tail.tail)
  have hp : Lib.TabIs Tryz.prog W "internal/strconv.uint64pow10" .u64 Lib.pow10Tab := Lib.tabIs_of_head (rest := _) (g := 1) (t := 267) (e := 58) (n := 20) (by kernel_rfl) (by kernel_rfl) Tryz.underlying267 Tryz.underlying58 (by kernel_rfl) (by kernel_rfl) (h.tail.tail)
  obtain ⟨ads, xs, hvs, _⟩ := laid_sentinel (g := 6) (h.tail.tail.tail.tail) (by kernel_rfl) (by kernel_rfl) Tryz.underlying214 rowErr Tryz.underlying312 Tryz.underlying314 rfl rfl Tryz.underlying9 (by kernel_rfl) (by kernel_rfl)
  obtain ⟨adr, xr, hvr, _⟩ := laid_sentinel (g := 7) (h.tail.tail.tail) (by kernel_rfl) (by kernel_rfl) Tryz.underlying214 rowErr Tryz.underlying312 Tryz.underlying314 rfl rfl Tryz.underlying9 (by kernel_rfl) (by kernel_rfl)
  have hw := Tab2.tab2_cell (rows := XA.wordsT) (rest := _) (g := 0) (t := 207) (e := 206) (s := 9) (n := 8) (m := 2) (by kernel_rfl) (by kernel_rfl) Tryz.underlying207 Tryz.underlying206 Tryz.underlying9 (by kernel_rfl) (by kernel_rfl) (h.tail.tail.tail.tail.tail.tail)
  refine ⟨fun i hi => Lib.TabIs.cell hm (g := 2) (by kernel_rfl) i hi, hp, ⟨_, _, var_cell hvs (g := 6) (by kernel_rfl)⟩, ⟨_, _, var_cell hvr (g := 7) (by kernel_rfl)⟩, fun i hi => match i, hi with | 0, _ => hw 0 0 _ _ rfl rfl | 1, _ => hw 0 1 _ _ rfl rfl | 2, _ => hw 1 0 _ _ rfl rfl | 3, _ => hw 1 1 _ _ rfl rfl | 4, _ => hw 2 0 _ _ rfl rfl | 5, _ => hw 2 1 _ _ rfl rfl | 6, _ => hw 3 0 _ _ rfl rfl | 7, _ => hw 3 1 _ _ rfl rfl | 8, _ => hw 4 0 _ _ rfl rfl | 9, _ => hw 4 1 _ _ rfl rfl | 10, _ => hw 5 0 _ _ rfl rfl | 11, _ => hw 5 1 _ _ rfl rfl | 12, _ => hw 6 0 _ _ rfl rfl | 13, _ => hw 6 1 _ _ rfl rfl | 14, _ => hw 7 0 _ _ rfl rfl | 15, _ => hw 7 1 _ _ rfl rfl | n + 16, h => absurd h (by omega)⟩
noncomputable def world0 (os : Os) : World :=
  let N := (World.settled Tryz.prog os).heap.size
  let w0 := World.holding Tryz.prog os ⟨#[.cells #[.string (⟨#[118, 97, 108, 117, 101, 32, 111, 117, 116, 32, 111, 102, 32, 114, 97, 110, 103, 101]⟩ : ByteArray)] 314, .cells #[.string (⟨#[105, 110, 118, 97, 108, 105, 100, 32, 115, 121, 110, 116, 97, 120]⟩ : ByteArray)] 314], #[], []⟩
  let put (h : Array Obj) (g : Nat) (cs : Array Value) : Array Obj := h.modify g fun
    | .cells _ t frozen => .cells cs t frozen
    | o => o
  let h0 := put (w0.heap) 4 #[Value.int .u8 0, Value.int .u8 1, Value.int .u8 28, Value.int .u8 2, Value.int .u8 29, Value.int .u8 14, Value.int .u8 24, Value.int .u8 3, Value.int .u8 30, Value.int .u8 22, Value.int .u8 20, Value.int .u8 15, Value.int .u8 25, Value.int .u8 17, Value.int .u8 4, Value.int .u8 8, Value.int .u8 31, Value.int .u8 27, Value.int .u8 13, Value.int .u8 23, Value.int .u8 21, Value.int .u8 19, Value.int .u8 16, Value.int .u8 7, Value.int .u8 26, Value.int .u8 12, Value.int .u8 18, Value.int .u8 6, Value.int .u8 11, Value.int .u8 5, Value.int .u8 10, Value.int .u8 9]
  let h1 := put (h0) 5 #[Value.int .u8 0, Value.int .u8 1, Value.int .u8 56, Value.int .u8 2, Value.int .u8 57, Value.int .u8 49, Value.int .u8 28, Value.int .u8 3, Value.int .u8 61, Value.int .u8 58, Value.int .u8 42, Value.int .u8 50, Value.int .u8 38, Value.int .u8 29, Value.int .u8 17, Value.int .u8 4, Value.int .u8 62, Value.int .u8 47, Value.int .u8 59, Value.int .u8 36, Value.int .u8 45, Value.int .u8 43, Value.int .u8 51, Value.int .u8 22, Value.int .u8 53, Value.int .u8 39, Value.int .u8 33, Value.int .u8 30, Value.int .u8 24, Value.int .u8 18, Value.int .u8 12, Value.int .u8 5, Value.int .u8 63, Value.int .u8 55, Value.int .u8 48, Value.int .u8 27, Value.int .u8 60, Value.int .u8 41, Value.int .u8 37, Value.int .u8 16, Value.int .u8 46, Value.int .u8 35, Value.int .u8 44, Value.int .u8 21, Value.int .u8 52, Value.int .u8 32, Value.int .u8 23, Value.int .u8 11, Value.int .u8 54, Value.int .u8 26, Value.int .u8 40, Value.int .u8 15, Value.int .u8 34, Value.int .u8 20, Value.int .u8 31, Value.int .u8 10, Value.int .u8 25, Value.int .u8 14, Value.int .u8 19, Value.int .u8 9, Value.int .u8 13, Value.int .u8 8, Value.int .u8 7, Value.int .u8 6]
  let h2 := put (h1) 1 #[Value.int .u64 1, Value.int .u64 10, Value.int .u64 100, Value.int .u64 1000, Value.int .u64 10000, Value.int .u64 100000, Value.int .u64 1000000, Value.int .u64 10000000, Value.int .u64 100000000, Value.int .u64 1000000000, Value.int .u64 10000000000, Value.int .u64 100000000000, Value.int .u64 1000000000000, Value.int .u64 10000000000000, Value.int .u64 100000000000000, Value.int .u64 1000000000000000, Value.int .u64 10000000000000000, Value.int .u64 100000000000000000, Value.int .u64 1000000000000000000, Value.int .u64 10000000000000000000]
  let h3 := put (h2) 7 #[.iface 312 (.pointer (some ⟨N + 0, 0, none⟩))]
  let h4 := put (h3) 6 #[.iface 312 (.pointer (some ⟨N + 1, 0, none⟩))]
  let h5 := put (h4) 2 #[Value.int .i64 31, Value.int .i64 28, Value.int .i64 31, Value.int .i64 30, Value.int .i64 31, Value.int .i64 30, Value.int .i64 31, Value.int .i64 31, Value.int .i64 30, Value.int .i64 31, Value.int .i64 30, Value.int .i64 31]
  let h6 := put (h5) 0 #[Value.string (⟨#[114, 101, 110, 117, 109, 98, 101, 114]⟩ : ByteArray), Value.string (⟨#[116, 111]⟩ : ByteArray), Value.string (⟨#[114, 101, 110, 97, 109, 101]⟩ : ByteArray), Value.string (⟨#[]⟩ : ByteArray), Value.string (⟨#[114, 101, 112, 97, 114, 101, 110, 116]⟩ : ByteArray), Value.string (⟨#[117, 110, 100, 101, 114]⟩ : ByteArray), Value.string (⟨#[109, 101, 114, 103, 101]⟩ : ByteArray), Value.string (⟨#[105, 110, 116, 111]⟩ : ByteArray), Value.string (⟨#[115, 112, 108, 105, 116]⟩ : ByteArray), Value.string (⟨#[105, 110, 116, 111]⟩ : ByteArray), Value.string (⟨#[114, 101, 99, 111, 100, 101]⟩ : ByteArray), Value.string (⟨#[116, 111]⟩ : ByteArray), Value.string (⟨#[106, 111, 105, 110]⟩ : ByteArray), Value.string (⟨#[105, 110, 116, 111]⟩ : ByteArray), Value.string (⟨#[99, 97, 108, 101, 110, 100, 97, 114]⟩ : ByteArray), Value.string (⟨#[117, 110, 116, 105, 108]⟩ : ByteArray)]
  { w0 with heap := h6 }
noncomputable abbrev N0 : Nat := (World.settled Tryz.prog default).heap.size
theorem met0 (os : Os) (args : Array Value) : laidMet Tryz.prog laid0 ((world0 os).forCall (fun _ _ => 0) ⟨#[], args, []⟩).memory :=
  (LaidIn.of_run [4, 5, 1, 7, N0 + 0, 6, N0 + 1, 2, 0] 8 (by kernel_rfl) (by kernel_rfl) (by kernel_rfl) (by kernel_rfl)).met
end Go.Proofs.YthabndifdgafbaaGreatDoor.Glo
end
section
namespace Go.Proofs.YthabndifdgafbaaGreatDoor.XA
open Go.RowKit Go.Proofs.YthabndifdgafbaaGreatDoorW.PrintWords Go.Proofs.YthabndifdgafbaaGreatDoorW.PrintLast Go.Proofs.YthabndifdgafbaaGreatDoorW.PrintMore
set_option linter.unusedVariables false
set_option linter.unusedSimpArgs false
namespace Awk
open RV
def fnsL : List Nat := [3, 4, 5, 6, 7, 8, 9, 10, 11, 12, 13, 14, 15, 16, 17, 18, 19, 20, 21, 22, 23, 24, 25, 26, 27, 28, 29, 30, 31, 32, 33, 34, 35, 36, 37, 38, 39, 40, 41, 42, 43, 44, 45, 46, 47, 48, 49, 50, 51, 52, 53, 54, 55, 56, 57, 58, 59, 60, 61, 62, 63, 64, 65, 66, 67, 68, 69, 70, 71, 72, 74, 75, 76, 77, 78, 79, 80, 81, 82, 83, 84, 85, 86, 87, 88, 89, 90, 91, 92, 93, 94, 95, 97, 98, 99, 100, 101, 102, 103, 106, 107, 108, 109, 110, 111, 113, 114, 115, 116, 117, 118, 119, 120, 121, 122, 123, 124, 125, 126, 127, 128, 129, 130, 131, 132, 133, 134, 135, 136, 137, 138, 139, 140, 141, 142, 143, 144, 148, 149, 150, 152, 153, 154, 155, 156, 157, 158, 159, 160, 161, 162, 163, 164, 165, 166, 167, 168, 169, 170, 171, 173, 174, 175, 176, 177, 178, 179, 180, 182, 183, 184, 185, 188, 189, 190, 191, 194, 196, 197, 198, 199, 200, 201, 202, 203, 205, 206, 207, 211, 212, 213, 214, 215, 216, 217, 218, 219, 220, 221, 222, 224, 225, 226, 227, 228, 229, 230, 231, 232, 233, 234, 235, 236, 237, 238, 239, 240, 241, 242, 243, 244, 245]
def modeL : List (Nat × Nat) := [(30, 2), (31, 2), (38, 2), (49, 2), (60, 2), (61, 2), (62, 2), (63, 2), (64, 2), (88, 2), (90, 2), (92, 2), (93, 2), (101, 2), (103, 2), (115, 5), (136, 2), (137, 2), (138, 2), (144, 2), (148, 2), (156, 2), (157, 2), (158, 2), (168, 2), (169, 2), (174, 2), (175, 2), (176, 2), (183, 2), (198, 2), (73, 3), (96, 4), (172, 3), (187, 3), (112, 3), (58, 2), (85, 2), (119, 2), (57, 1), (84, 1), (118, 1), (56, 1), (81, 1), (54, 1), (15, 1), (39, 2), (34, 2), (238, 1)]
def ownL : List (Nat × List Nat) := [(3, [6, 7, 20, 22]), (4, [8, 10, 28, 40]), (5, [7, 22]), (6, [4, 7, 21, 24, 25, 28, 29]), (7, [3, 7, 8, 19, 21, 30, 31]), (8, [3, 7, 10, 26, 36, 37, 45]), (9, [4, 9, 13, 24, 34, 35, 51]), (10, [9, 60]), (12, [2, 3, 5, 14, 20, 21, 26, 27, 36, 44, 48, 60, 61, 69, 70, 71, 76, 77, 78]), (15, [4, 11]), (17, [8, 45]), (18, [5]), (19, [1, 6]), (21, [3, 16, 17, 24, 28, 29, 30]), (22, [3, 7, 10, 32, 33, 50, 58, 61, 62, 77]), (23, [7, 10, 18, 24]), (24, [7, 22]), (25, [1, 11]), (27, [4, 6, 13, 30, 33, 34, 37, 38, 39]), (33, [3, 7, 12, 19, 39, 47, 48, 49, 50]), (34, [9, 10, 14, 39, 42, 52, 54, 60, 61, 62, 63, 73, 106, 108, 109, 113, 114]), (35, [3, 6, 10, 11, 19, 25, 29, 32, 34]), (36, [2, 3, 15, 22, 28, 29]), (39, [10, 11, 46, 49, 59, 61, 68, 69, 70, 71, 98, 102, 103, 104, 106]), (40, [8, 16]), (41, [3, 6, 18, 20, 30, 36, 37, 47, 49, 84, 86]), (42, [6, 7, 8, 15, 32, 50, 57, 59, 60, 61]), (44, [2, 3, 4, 6, 7, 12, 13, 16, 17, 21, 42, 43, 44, 45, 46, 48, 50, 53, 54]), (45, [1, 5]), (48, [4, 5, 6, 11, 14, 21, 22]), (50, [4, 5, 7, 28, 29, 32, 33]), (51, [4, 5, 16, 17, 25, 26, 27]), (53, [6, 13, 31, 32, 39, 40]), (54, [7, 10, 13]), (59, [6, 7, 24, 38, 44, 51, 52, 59]), (60, [0, 1, 2, 4, 12, 18, 20]), (62, [0, 4, 10, 14]), (63, [0, 1, 16, 17, 18, 19, 20, 21, 22, 29, 30, 32, 33, 34, 35, 36, 37, 40, 41, 42, 49, 50, 52, 53, 54, 57, 69, 70, 71, 72, 73, 74, 75, 79, 80, 81]), (64, [0, 6, 7, 10, 14, 20]), (65, [6, 47]), (67, [4, 5, 10, 17, 18]), (68, [4, 28]), (69, [2, 7]), (70, [4, 5, 24, 25, 28]), (72, [3]), (74, [4, 16, 20]), (75, [2, 4, 8, 15, 20, 21]), (76, [7, 17, 18, 22, 24, 25]), (77, [8, 14]), (78, [4, 11, 12, 36, 56, 60, 61]), (79, [4, 6, 7, 18, 53, 62]), (83, [6, 15]), (87, [2, 23, 38, 56, 61, 73, 74]), (88, [0, 6, 8, 14, 29, 30, 34, 35, 36, 37, 38]), (90, [0, 4, 7, 9, 13, 15, 22]), (92, [0, 7, 13, 31]), (93, [0, 5, 12, 17, 23, 25]), (99, [4, 46]), (100, [2, 11]), (101, [0, 7, 25, 30, 32, 33]), (107, [7, 13]), (108, [2, 7, 10, 23, 25, 26, 27]), (109, [0, 9, 32, 34, 40, 41, 43, 46, 50, 56, 60, 69, 73, 78, 80, 84, 86]), (110, [7, 13]), (113, [6, 12, 25, 32]), (118, [4, 7, 13, 18, 20]), (119, [0, 33, 35, 42, 46, 47, 48]), (120, [0, 33, 35, 44, 48, 49, 50]), (121, [0, 7, 17, 47, 49, 58, 62, 63, 64]), (122, [9]), (123, [0, 14, 16, 21, 25, 26, 27]), (124, [0, 42, 44, 51, 55, 56, 57, 79, 81, 88, 92, 93, 94, 117, 119, 126, 130, 131, 132]), (126, [0, 11, 13, 18, 22, 23, 24, 65, 67, 72, 76, 77, 78]), (127, [0, 12, 14, 19, 23, 24, 25, 66, 68, 73, 77, 78, 79, 81, 83, 88, 92, 93, 94, 135, 137, 142, 146, 147, 148, 153, 155, 160, 164, 165, 166]), (131, [2, 19, 22, 38, 55]), (135, [5, 35]), (136, [0, 4, 22]), (137, [0, 6, 8, 12, 14, 15, 16]), (141, [3, 5, 11, 13, 14, 17, 18, 32, 33, 38, 42, 47, 53, 68, 73, 90, 95, 102, 114, 115, 120, 132, 133, 138, 143, 148]), (143, [1, 6]), (154, [0, 53, 57, 66, 72, 73, 74]), (156, [0, 3, 10, 11, 12, 19, 20, 21, 28, 29]), (157, [2, 13]), (158, [4, 15, 23, 31]), (166, [0, 42, 45, 50, 52, 53, 54, 55, 58, 63, 65, 66, 67, 68, 71, 76, 78, 79, 80, 81, 84, 89, 91, 92, 93, 110, 113, 118, 120, 121, 122, 123, 126, 131, 133, 134, 135, 145, 148, 153, 155, 156, 157, 162, 165, 166]), (167, [12, 53, 54, 62, 63, 80, 81, 87, 88, 93]), (168, [0, 7, 11, 12, 13]), (169, [0, 4, 13, 19, 20, 26, 27, 28, 29]), (173, [9]), (174, [0, 8, 12, 17, 18, 19, 20, 24, 28, 29, 30]), (175, [0, 4, 9, 13, 15, 16, 17]), (176, [0, 4]), (177, [2, 3, 6, 10, 23, 44, 49, 50, 52]), (179, [5, 10, 29, 66]), (180, [1, 5]), (183, [3, 19, 22, 23]), (199, [8, 9, 19, 22, 25, 26, 30]), (200, [4, 6, 27, 43]), (201, [5, 13]), (202, [5, 13]), (205, [0, 14, 16, 21, 25, 26, 27]), (216, [4, 5, 31, 47, 48, 49]), (227, [3, 9, 10])]
def dpL : List (Nat × List Nat) := [(5, [3, 11, 16]), (6, [3, 10, 15]), (10, [3, 18, 22, 27, 45, 47, 51]), (12, [1, 6, 10, 17, 24, 30, 37, 65, 67, 74]), (14, [1, 3]), (17, [3, 9, 13, 19, 24, 29, 34, 39, 51]), (18, [3, 8, 12, 19, 25, 31, 36, 41, 46]), (21, [2, 5, 12, 15, 35]), (22, [2, 16, 20, 24, 31, 35, 39, 55, 59, 65, 71, 97]), (23, [3]), (24, [3]), (31, [2, 4]), (32, [2, 7, 10]), (33, [2, 13, 42]), (35, [4]), (36, [1, 4, 7, 10, 12]), (41, [4, 5, 22, 26, 32, 35, 39, 57, 63, 71]), (47, [2, 7, 15, 22, 31]), (50, [2, 27]), (52, [3, 8, 12, 16, 19, 28, 37, 47]), (53, [3, 10, 17, 23, 30, 38, 48, 55]), (54, [1, 6, 9, 12]), (55, [2, 9, 23]), (65, [1, 9, 13, 16, 19, 22, 30, 33, 41, 61, 64, 73, 74, 88, 91, 92]), (68, [2, 3, 7, 9, 12, 15, 20]), (70, [2, 3, 14, 17]), (76, [3, 10]), (77, [4, 17, 25, 32, 38]), (81, [1, 6, 11, 16, 19]), (89, [10, 11]), (91, [10, 11]), (100, [1, 3, 6]), (141, [1, 19, 20, 25, 26, 54, 55, 60, 61, 74, 75, 76, 81, 82, 83, 96, 97, 98, 103, 108]), (149, [2, 6, 11]), (165, [10]), (171, [13]), (177, [1, 17]), (178, [1, 5, 9, 14, 16]), (179, [1, 12, 18, 22, 38, 50, 51, 67]), (199, [2, 3, 13, 43, 56, 59]), (200, [1, 7, 11, 16, 21]), (201, [2, 3, 8, 10, 18, 20, 26, 30, 32]), (202, [1, 7]), (211, [11]), (212, [11]), (216, [2, 3, 6, 8, 11, 18, 20, 23, 29, 32, 36, 38, 42]), (219, [10]), (220, [10]), (221, [15]), (222, [15]), (228, [5]), (235, [1, 3, 7, 12])]
def badL : List (Nat × List Nat) := [(42, [12]), (44, [3]), (60, [5])]
def lookL (l : List (Nat × List Nat)) (f : Nat) : List Nat := match l with | [] => [] | (g, x) :: r => match Nat.beq f g with | true => x | false => lookL r f
def lookN (l : List (Nat × Nat)) (f : Nat) : Nat := match l with | [] => 0 | (g, x) :: r => match Nat.beq f g with | true => x | false => lookN r f
def memN (l : List Nat) (n : Nat) : Bool := match l with | [] => false | x :: r => Nat.beq x n || memN r n
def quietL : List Nat := [60]
def monthsP : List PV := monthsL.map fun n => PV.lit (.int .i64 n)
def pow10P : List PV := Lib.pow10Tab.map fun n => PV.lit (.int .u64 n)
def wordsP : List PV := wordsL.map fun b => PV.lit (.string b)
def indexA : List PV → Option PV
  | [.lit (.string s), .lit (.string ⟨⟨[c]⟩⟩)] => some (.lit (.int .i64 (Lib.indexByte s.data.toList c)))
  | _ => none
def withA : List PV → Option PV
  | [.dsl 1 [.lit (.int .u16 1), .lit (.int .u16 3)] _, .lit (.int .u16 2)] => some (.dsl 1 [.lit (.int .u16 1), .lit (.int .u16 2), .lit (.int .u16 3)] none)
  | _ => none
def strsA : List PV → Option (List ByteArray)
  | [] => some []
  | .lit (.string s) :: r => match strsA r with | some l => some (s :: l) | none => none
  | _ => none
def joinA : List PV → Option PV
  | [.dsl 1 (p :: r) _, .lit (.string sep)] => match strsA (p :: r) with
    | some xs => if xs.length ≤ 140737488355328 ∧ (Lib.join (xs.map (·.data.toList)) sep.data.toList).length ≤ 140737488355328 then some (strP ⟨(Lib.join (xs.map (·.data.toList)) sep.data.toList).toArray⟩) else none
    | none => none
  | _ => none
def specA (f : FuncId) (args : List PV) : Option PV := match Nat.beq f 172 with | true => itoaA args | false => match Nat.beq f 187 with | true => indexA args | false => match Nat.beq f 73 with | true => withA args | false => match Nat.beq f 112 with | true => nameA args | false => match Nat.beq f 96 with | true => joinA args | false => none
structure Sp where
  f : FuncId → List PV → Option PV
  itoa : ∀ {n : Int}, (-9223372036854775808 ≤ n ∧ n ≤ 9223372036854775807) → f 172 [i64P n] = some (strP (itoaS n))
  name : ∀ {s : ByteArray}, s.size ≤ 140737488351232 → f 112 [strP s] = some (boolP (nmOk s.data.toList))
def sp0 : Sp := { f := specA, itoa := fun h => itoaA_ok h, name := fun h => if_pos h }
def globA (g : Nat) : Option (List PV) :=
  match Nat.beq g 2 with
  | true => some monthsP
  | false => match Nat.beq g 1 with
    | true => some pow10P
    | false => match Nat.beq g 0 with
      | true => some wordsP
      | false => none
def lowA : Nat := max (max 2 1) (max (max 6 7) 0) + 1
theorem staysA (w w' : World) (G : Glob w) (h : ∀ b, b < lowA → w'.heap[b]? = w.heap[b]?) : Glob w' := by
  have hc : ∀ b o, b < lowA → w'.cell? ⟨b, o, none⟩ = w.cell? ⟨b, o, none⟩ := fun b o hb => World.cell?_of_block (h b hb)
  refine ⟨fun i hi => (hc _ _ (by decide)).trans (G.months i hi), ?_, ?_, ?_, fun i hi => (hc _ _ (by decide)).trans (G.words i hi)⟩
  · have := G.pow10
    unfold Lib.TabIs World.var? at this ⊢
    rw [globalPow10] at this ⊢
    simp only [Option.bind_some] at this ⊢
    rw [h _ (by decide)]
    exact this
  · obtain ⟨te, pe, h1⟩ := G.synErr
    exact ⟨te, pe, (hc _ _ (by decide)).trans h1⟩
  · obtain ⟨te, pe, h1⟩ := G.rngErr
    exact ⟨te, pe, (hc _ _ (by decide)).trans h1⟩
noncomputable def cfg (spc : Sp) : Cfg := { P := Tryz.prog, fns := memN fnsL, mode := lookN modeL, spec := spc.f, glob := globA, own := fun f t => memN (lookL ownL f) t, dp := fun f t => memN (lookL dpL f) t, bad := fun f t => memN (lookL badL f) t, gl := lowA, ginv := Glob, gst := staysA, quiet := fun f => memN quietL f }
def allB (p : Nat → Bool) : List Nat → Bool
  | [] => true
  | x :: r => p x && allB p r
theorem allB_mem {p : Nat → Bool} : ∀ {l : List Nat}, allB p l = true → ∀ n, memN l n = true → p n = true
  | [], _, n, h => by cases h
  | x :: r, h, n, hn => by
    simp only [allB, Bool.and_eq_true] at h
    simp only [memN, Bool.or_eq_true] at hn
    rcases hn with hn | hn
    · rw [← Nat.eq_of_beq_eq_true hn]; exact h.1
    · exact allB_mem h.2 n hn
set_option maxRecDepth 100000 in
theorem okL : allB (fnOK (cfg sp0) drawOK) fnsL = true := by kernel_rfl
theorem modeOf : ∀ {l : List (Nat × Nat)} {f k : Nat}, lookN l f = k → k ≠ 0 → (f, k) ∈ l
  | [], f, k, h, hk => by simp [lookN] at h; omega
  | (g, x) :: r, f, k, h, hk => by
    simp only [lookN] at h
    split at h
    · rename_i e; have e := Nat.eq_of_beq_eq_true e; subst e; subst h; simp
    · exact List.mem_cons_of_mem _ (modeOf h hk)
theorem told3 (f : Nat) (h : lookN modeL f = 3 ∨ lookN modeL f = 4) : f = 172 ∨ f = 187 ∨ f = 73 ∨ f = 112 ∨ f = 96 := by
  rcases h with h | h
  · have := modeOf h (by decide)
    simp [modeL] at this
    omega
  · have := modeOf h (by decide)
    simp [modeL] at this
    omega
set_option maxRecDepth 100000 in
theorem runA : callPure (cfg sp0) (exec (cfg sp0) 3000) 11 [] = some (.lit (.bool true)) := by kernel_rfl
theorem with_ok : unit_Units_With.f 100 [1, 3] 2 = some [1, 2, 3] := by decide +kernel
theorem cell_cells {w : World} {b o : Nat} {v : Value} (h : w.cell? ⟨b, o, none⟩ = some v) : ∃ cs t fz, w.heap[b]? = some (.cells cs t fz) ∧ cs[o]? = some v := by
  unfold World.cell? at h
  split at h
  · rename_i cs t fz hb
    exact ⟨cs, t, fz, hb, by simpa using h⟩
  · cases h
theorem baseA {w : World} (G : Glob w) (O : Nat → Prop) (hO : ∀ b, ¬ O b) : Base (cfg sp0) O w where
  lt := fun b hb => (hO b hb).elim
  glob := by
    intro g l hg
    have hg : globA g = some l := hg
    unfold globA at hg
    split at hg
    · rename_i e
      cases hg
      rw [Nat.eq_of_beq_eq_true e]
      obtain ⟨cs, t, fz, hb, _⟩ := cell_cells (G.months 0 (by decide))
      refine V.dptr_iff.2 ⟨_, 0, monthsL.map (.int .i64), rfl, hO _, ⟨cs, t, fz, hb, fun i y hy => ?_⟩, ?_⟩
      · have hi : i < 12 := by have := (List.getElem?_eq_some_iff.1 hy).1; simpa [monthsL] using this
        obtain ⟨cs2, t2, fz2, hb2, h2⟩ := cell_cells (G.months i hi)
        rw [hb] at hb2
        cases hb2
        rw [Nat.zero_add, h2]
        rw [List.getElem?_map] at hy
        have hm : monthsL[i]? = some (monthsL.getD i 0) := by
          have : i < monthsL.length := hi
          simp [List.getD, this]
        rw [hm] at hy
        exact hy
      · have := VL.lits (w := w) (O := O) (ι := iota0) (monthsL.map (Value.int .i64))
        rw [List.map_map] at this
        exact this
    · split at hg
      · rename_i e
        cases hg
        rw [Nat.eq_of_beq_eq_true e]
        have hp := G.pow10
        unfold Lib.TabIs World.var? at hp
        rw [globalPow10] at hp
        simp only [Option.bind_some] at hp
        split at hp
        · rename_i cs t fz hb
          have hcs := Option.some.inj hp
          refine V.dptr_iff.2 ⟨_, 0, Lib.pow10Tab.map (.int .u64), rfl, hO _, ⟨cs, t, fz, hb, fun i y hy => ?_⟩, ?_⟩
          · rw [Nat.zero_add, hcs]
            simpa using hy
          · have := VL.lits (w := w) (O := O) (ι := iota0) (Lib.pow10Tab.map (Value.int .u64))
            rw [List.map_map] at this
            exact this
        · cases hp
      · split at hg
        · rename_i e
          cases hg
          rw [Nat.eq_of_beq_eq_true e]
          obtain ⟨cs, t, fz, hb, _⟩ := cell_cells (G.words 0 (by decide))
          refine V.dptr_iff.2 ⟨_, 0, wordsL.map Value.string, rfl, hO _, ⟨cs, t, fz, hb, fun i y hy => ?_⟩, ?_⟩
          · have hi : i < 16 := by have := (List.getElem?_eq_some_iff.1 hy).1; simpa [wordsL] using this
            obtain ⟨cs2, t2, fz2, hb2, h2⟩ := cell_cells (G.words i hi)
            rw [hb] at hb2
            cases hb2
            rw [Nat.zero_add, h2]
            rw [List.getElem?_map] at hy
            have hm : wordsL[i]? = some (wordsL.getD i ⟨#[]⟩) := by
              have : i < wordsL.length := hi
              simp [List.getD, this]
            rw [hm] at hy
            exact hy
          · have := VL.lits (w := w) (O := O) (ι := iota0) (wordsL.map Value.string)
            rw [List.map_map] at this
            exact this
        · cases hg
  low := fun b hb => by
    refine ⟨?_, hO b⟩
    obtain ⟨te, pe, h1⟩ := G.rngErr
    obtain ⟨cs, t, fz, h2, _⟩ := cell_cells h1
    have := (Array.getElem?_eq_some_iff.1 h2).1
    have hb : b < lowA := hb
    have hl : lowA ≤ 7 + 1 := by decide
    omega
  ginv := G
theorem args1 {w : World} {O : Nat → Prop} {ι : Iota} {p : PV} {vals : List Value} (h : VL w O ι [p] vals) : ∃ x, vals = [x] ∧ V w O ι p x := by
  obtain ⟨x, xs, rfl, hx, hs⟩ := VL.cons_iff.1 h
  rw [VL.nil_iff] at hs
  subst hs
  exact ⟨x, rfl, hx⟩
theorem args2 {w : World} {O : Nat → Prop} {ι : Iota} {p q : PV} {vals : List Value} (h : VL w O ι [p, q] vals) : ∃ x y, vals = [x, y] ∧ V w O ι p x ∧ V w O ι q y := by
  obtain ⟨x, xs, rfl, hx, hs⟩ := VL.cons_iff.1 h
  obtain ⟨y, rfl, hy⟩ := args1 hs
  exact ⟨x, y, rfl, hx, hy⟩
theorem told_itoa {w : World} {O : Nat → Prop} {args : List PV} {p : PV} {vals : List Value} (hB : Base (cfg sp0) O w) (hv : VL w O iota0 args vals) (h : itoaA args = some p) :
    Calls Tryz.prog 172 vals.toArray w fun e w' => ∃ x, e = .returned x ∧ RV.Grown w w' ∧ V w' O iota0 p x := by
  unfold itoaA at h
  split at h
  · rename_i n
    split at h <;> cases h
    rename_i hn
    obtain ⟨x, rfl, hx⟩ := args1 hv
    obtain rfl := V.lit_iff.1 hx
    refine (strconv_Itoa.calls n _ w hB.ginv (by unfold strconv_Itoa.f; rw [if_pos hn])).mono ?_
    rintro e w' ⟨rfl, hb⟩
    exact ⟨_, rfl, .of_below hb, V.lit_iff.2 rfl⟩
  · cases h
theorem told_index {w : World} {O : Nat → Prop} {args : List PV} {p : PV} {vals : List Value} (hv : VL w O iota0 args vals) (h : indexA args = some p) :
    Calls Tryz.prog 187 vals.toArray w fun e w' => ∃ x, e = .returned x ∧ RV.Grown w w' ∧ V w' O iota0 p x := by
  unfold indexA at h
  split at h
  · rename_i s c
    cases h
    obtain ⟨x, y, rfl, hx, hy⟩ := args2 hv
    obtain rfl := V.lit_iff.1 hx
    obtain rfl := V.lit_iff.1 hy
    refine (Tryz.stringslite_Index_one s c w).mono ?_
    rintro e w' ⟨rfl, rfl⟩
    exact ⟨_, rfl, .refl, V.lit_iff.2 rfl⟩
  · cases h
theorem told_with {w : World} {O : Nat → Prop} {args : List PV} {p : PV} {vals : List Value} (hB : Base (cfg sp0) O w) (hv : VL w O iota0 args vals) (h : withA args = some p) :
    Calls Tryz.prog 73 vals.toArray w fun e w' => ∃ x, e = .returned x ∧ RV.Grown w w' ∧ V w' O iota0 p x := by
  unfold withA at h
  split at h
  · rename_i cap
    cases h
    obtain ⟨x, y, rfl, hx, hy⟩ := args2 hv
    obtain rfl := V.lit_iff.1 hy
    obtain ⟨a, c, rfl, hc, _, hr⟩ := V.dsl_iff.1 hx
    rcases hr with hr | ⟨b, o, rfl, hOb, hVE⟩
    · cases hr
    have hC : Kd.C (Kd.int .u16) w (some ⟨b, o, none⟩) 2 [1, 3] := by
      refine ⟨rfl, by decide, fun _ => ⟨_, rfl, fun j q hq => ⟨[.int .u16 q], rfl, rfl, fun i u hu => ?_⟩⟩⟩
      have hl : ([.lit (.int .u16 1), .lit (.int .u16 3)] : List PV)[j]? = some (.lit (.int .u16 q)) := by
        rcases j with _ | _ | j <;> simp at hq <;> subst hq <;> simp
      obtain ⟨y, hy2, _, cs, t, fz, hb, hg⟩ := hVE.get j _ hl
      obtain rfl := V.lit_iff.1 hy2
      have hi : i = 0 := by have := (List.getElem?_eq_some_iff.1 hu).1; simpa using this
      subst hi
      have hu : Value.int .u16 q = u := by simpa using hu
      show w.cell? ((⟨b, o, none⟩ : Addr).add (j * 1 + 0)) = some u
      rw [Addr.add_mid, cell_of_row w b _ cs t fz hb, ← hu]
      have := hg 0 (.int .u16 q) rfl
      rw [← this]
      congr 1
    refine (unit_Units_With.calls 100 _ c [1, 3] 2 [1, 2, 3] w hC hc with_ok).mono ?_
    rintro e w' ⟨v, rfl, hR, hb⟩
    refine ⟨v, rfl, .of_below hb, ?_⟩
    obtain ⟨A, c2, rfl, hl, hC2⟩ := Kd.R_reads hR
    obtain ⟨_, inner, hown, _⟩ := hR
    rcases hown.2 with ⟨hv, _⟩ | ⟨g, cap2, cur, hv, hge, hheap, _⟩
    · cases hv
    cases hv
    obtain ⟨ad, had, hcell⟩ := hC2.2.2 (by decide)
    cases had
    refine V.dsl_iff.2 ⟨_, _, rfl, hl, fun k h => (by cases h), .inr ⟨g, 0, rfl, fun hh => absurd (hB.lt _ hh) (by omega), VE.of_get fun i q hq => ?_⟩⟩
    have hq2 : ∃ z, ([1, 2, 3] : List Int)[i]? = some z ∧ q = .lit (.int .u16 z) := by
      rcases i with _ | _ | _ | i <;> simp at hq <;> subst hq <;> simp
    obtain ⟨z, hz, rfl⟩ := hq2
    obtain ⟨cc, _, hcc, hget⟩ := hcell i z hz
    have hcc : cc = [Value.int .u16 z] := hcc
    have h0 : w'.cell? ((⟨g, 0, none⟩ : Addr).add (i * 1 + 0)) = some (.int .u16 z) := hget 0 _ (by rw [hcc]; rfl)
    rw [Addr.add_mid, cell_of_row w' g _ cur _ _ hheap] at h0
    refine ⟨.int .u16 z, V.lit_iff.2 rfl, rfl, cur, _, _, hheap, fun j y hy => ?_⟩
    have hj : j = 0 := by have := (List.getElem?_eq_some_iff.1 hy).1; simpa [Value.cells] using this
    subst hj
    have hy : Value.int .u16 z = y := by simpa [Value.cells] using hy
    rw [← hy, ← h0]
    congr 1
  · cases h
theorem told_name {w : World} {O : Nat → Prop} {args : List PV} {p : PV} {vals : List Value} (hv : VL w O iota0 args vals) (h : nameA args = some p) :
    Calls Tryz.prog 112 vals.toArray w fun e w' => ∃ x, e = .returned x ∧ RV.Grown w w' ∧ V w' O iota0 p x := by
  unfold nameA at h
  split at h
  · split at h <;> cases h
    obtain ⟨x, rfl, hx⟩ := args1 hv
    obtain rfl := V.lit_iff.1 hx
    refine (chart_Name.calls _ _ w rfl).mono ?_
    rintro e w' ⟨rfl, hb⟩
    exact ⟨_, rfl, .of_below hb, V.lit_iff.2 rfl⟩
  · cases h
theorem strsA_spec : ∀ {l : List PV} {xs : List ByteArray}, strsA l = some xs → xs.length = l.length ∧ ∀ (j : Nat) (x : ByteArray), xs[j]? = some x → l[j]? = some (.lit (.string x))
  | [], xs, h => by
    cases h
    exact ⟨rfl, fun j x hx => by simp at hx⟩
  | p :: r, xs, h => by
    unfold strsA at h
    split at h
    · rename_i heq
      cases heq
    · rename_i s r' heq
      cases heq
      split at h
      · rename_i l' hl
        cases h
        obtain ⟨h1, h2⟩ := strsA_spec hl
        refine ⟨by simp [h1], fun j x hx => ?_⟩
        cases j with
        | zero => simp at hx; subst hx; rfl
        | succ j => simpa using h2 j x (by simpa using hx)
      · cases h
    · cases h
theorem told_join {w : World} {O : Nat → Prop} {args : List PV} {p : PV} {vals : List Value} (hv : VL w O iota0 args vals) (h : joinA args = some p) :
    Calls Tryz.prog 96 vals.toArray w fun e w' => ∃ x, e = .returned x ∧ RV.Grown w w' ∧ V w' O iota0 p x := by
  unfold joinA at h
  split at h
  · rename_i p0 r cap sep
    split at h
    · rename_i xs hxs
      split at h <;> cases h
      rename_i hb
      obtain ⟨h1, h2⟩ := strsA_spec hxs
      obtain ⟨x, y, rfl, hx, hy⟩ := args2 hv
      obtain rfl := V.lit_iff.1 hy
      obtain ⟨a, c, rfl, hc, _, hr⟩ := V.dsl_iff.1 hx
      rcases hr with hr | ⟨b, o, rfl, hOb, hVE⟩
      · cases hr
      have hcell : ∀ (j : Nat) (z : ByteArray), xs[j]? = some z → w.cell? ⟨b, o + j, none⟩ = some (.string z) ∧ b < w.heap.size := by
        intro j z hz
        obtain ⟨y, hy2, _, cs, t, fz, hbb, hg⟩ := hVE.get j _ (h2 j z hz)
        obtain rfl := V.lit_iff.1 hy2
        have h3 := hg 0 (.string z) rfl
        exact ⟨by rw [cell_of_row w b _ cs t fz hbb]; simpa using h3, (Array.getElem?_eq_some_iff.1 hbb).1⟩
      have hlt : b < w.heap.size := by
        cases xs with
        | nil => simp at h1
        | cons z zs => exact (hcell 0 z rfl).2
      have := Tryz.strings_Join b o c xs sep w (fun j z hz => (hcell j z hz).1) hlt hb.1 (by rw [h1]; exact hc) hb.2
      rw [h1] at this
      refine this.mono ?_
      rintro e w' ⟨rfl, hbl⟩
      exact ⟨_, rfl, .of_below hbl, V.lit_iff.2 rfl⟩
    · cases h
  · cases h
theorem size_app (v : Array Value) (n : Nat) : n ≤ (v ++ Array.replicate (n - v.size) undef).size := by simp; omega
theorem quiet_parse (vals : Array Value) (w : World) : CallsD Tryz.prog 60 vals .returning w fun e u' w' => (∃ v, e = .returned v) ∧ u' = .returning ∧ w' = w := by
  refine callsD_of_wpS Tryz.func60 rfl fun c₀ cs hu => ?_
  rw [Tryz.ntmps60]
  have hs := size_app vals 21
  generalize vals ++ Array.replicate (21 - vals.size) undef = tm at hs
  have h6 : 6 < tm.size := by omega
  have h3 : 3 < tm.size := by omega
  have h7 : 7 < tm.size := by omega
  have h8 : 8 < tm.size := by omega
  have hn : ∀ w : World, (binOp BinOp.neq 20 .nilIface .nilIface).run Tryz.prog w = .ok (.bool false) w := fun _ => by kernel_rfl
  apply wpS_seq
  apply wpS_region
  simp [wpOpsS, go_sem, recoverD, hu, Exit.thenS]
  apply wpS_seq
  apply wpS_region
  simp [wpOpsS, go_sem, Exit.thenS, hn, h6, h3, h7, h8, Array.getElem?_setIfInBounds]
  refine wpS_cond (t := false) (by simp [Act.eval, h8]) ?_
  simp only [Bool.false_eq_true, if_false]
  refine wpS_of_wp (wp_skip ?_)
  cases c₀
  simp_all [bodyPostS, results, Tryz.results60, Exit.thenS]
theorem cfgOK : CfgOK (cfg sp0) drawOK where
  mixed := by kernel_rfl
  fn := fun f h => allB_mem okL f h
  told := fun f h => by
    rcases told3 f h with rfl | rfl | rfl | rfl | rfl
    · exact ⟨_, Tryz.func172, by decide, rfl⟩
    · exact ⟨_, Tryz.func187, by decide, rfl⟩
    · exact ⟨_, Tryz.func73, by decide, rfl⟩
    · exact ⟨_, Tryz.func112, by decide, rfl⟩
    · exact ⟨_, Tryz.func96, by decide, rfl⟩
  spec := fun f args p hm h w O vals hB hv => by
    rcases told3 f hm with rfl | rfl | rfl | rfl | rfl
    · exact told_itoa hB hv h
    · exact told_index hv h
    · exact told_with hB hv h
    · exact told_name hv h
    · exact told_join hv h
  quiet := fun g hg vals w => by
    have hg : memN quietL g = true := hg
    have : g = 60 := by simp [memN, quietL] at hg; exact hg.symm
    subst this
    exact ⟨run_enter Tryz.func60 (by decide) rfl, quiet_parse vals w⟩
end Awk
end Go.Proofs.YthabndifdgafbaaGreatDoor.XA
end
section
open Go Go.Proofs.YthabndifdgafbaaGreatDoor.RV Go.Proofs.YthabndifdgafbaaGreatDoor.XA.Awk Go.Proofs.YthabndifdgafbaaGreatDoor.RV.ChartMath Go.Proofs
namespace Go.Proofs.YthabndifdgafbaaGreatDoor.RV.T
set_option maxRecDepth 100000
set_option linter.unusedVariables false
set_option linter.unusedSimpArgs false
variable {spc : Sp}
def nameB (n : Int) : ByteArray := (([(⟨#[67, 97, 115, 104]⟩ : ByteArray), (⟨#[97]⟩ : ByteArray), (⟨#[66, 97, 110, 107, 32, 49]⟩ : ByteArray), (⟨#[76, 111, 115, 115, 46, 120]⟩ : ByteArray), (⟨#[49, 50, 51, 52, 53, 54, 55, 56, 57, 48, 49, 50, 51, 52, 53, 54, 55, 56, 57, 48, 49, 50, 51, 52, 53, 54, 55, 56, 57, 48]⟩ : ByteArray)] : List ByteArray)[(n % 5).toNat]?).getD .empty
theorem name_ok (n : Int) (h0 : 0 ≤ n) : Fn (cfg spc) 26 [u8P n] (· = strP (nameB n)) := by
  refine Fn.go Tryz.func26 (L := [(0, _)]) rfl rfl rfl (by first | rfl | (simp [deepL, deepB, *]; done) | (simp [deepL, deepB, *]; rfl)) rfl ?_
  refine Ps.seq ?_
  refine Ps.region rfl ?_
  refine Rs.assign (p := .lit _) rfl rfl ?_
  refine Rs.nil ?_
  refine Ps.thn ?_
  refine Ps.seq ?_
  obtain ⟨k, hk, hk5⟩ : ∃ k : Nat, n % 5 = (k : Int) ∧ k < 5 := ⟨(n % 5).toNat, by omega, by omega⟩
  refine Ps.region rfl ?_
  refine Rs.buildSlice (l := [_, _, _, _, _]) rfl rfl rfl rfl (by first | rfl | simp [deepL, deepB, *]) ?_
  refine Rs.move rfl rfl ?_
  refine Rs.rem rfl rfl rfl (by omega) (by first | exact Int.tmod_eq_emod_of_nonneg (by omega) | rfl) ?_
  first | refine Rs.indexD (lc := [_]) rfl rfl rfl rfl rfl hk (p := strP (nameB n)) (by have : k = 0 ∨ k = 1 ∨ k = 2 ∨ k = 3 ∨ k = 4 := (by omega); unfold nameB; rw [hk]; rcases this with rfl | rfl | rfl | rfl | rfl <;> rfl) rfl ?_ | refine Rs.indexS (lc := [_]) rfl rfl rfl rfl rfl (by assumption) hk (p := strP (nameB n)) (by have : k = 0 ∨ k = 1 ∨ k = 2 ∨ k = 3 ∨ k = 4 := (by omega); unfold nameB; rw [hk]; rcases this with rfl | rfl | rfl | rfl | rfl <;> rfl) rfl ?_
  first | refine Rs.loadR rfl rfl rfl rfl ?_ | refine Rs.loadP 0 rfl rfl rfl rfl rfl ?_ | refine Rs.loadP 1 rfl rfl rfl rfl rfl ?_ | refine Rs.loadP 2 rfl rfl rfl rfl rfl ?_ | refine Rs.loadP 3 rfl rfl rfl rfl rfl ?_
  refine Rs.assign rfl rfl ?_
  refine Rs.nil ?_
  refine Ps.thn ?_
  refine Ps.ret ?_
  -- leaf 1 (ret)
  refine Ps.finP (l := [_]) rfl (by refine ResR.tmp rfl ?_; exact ResR.nil) (by first | rfl | simp [plainP, plainC, cp_lit, cp_dsl, *]) rfl ?_
  rfl
end Go.Proofs.YthabndifdgafbaaGreatDoor.RV.T
end
section
open Go Go.Proofs.YthabndifdgafbaaGreatDoor.RV Go.Proofs.YthabndifdgafbaaGreatDoor.XA.Awk Go.Proofs.YthabndifdgafbaaGreatDoor.RV.ChartMath Go.Proofs
namespace Go.Proofs.YthabndifdgafbaaGreatDoor.RV.T
set_option maxRecDepth 100000
set_option linter.unusedVariables false
set_option linter.unusedSimpArgs false
variable {spc : Sp}
structure Src where
  code : Int
  kind : Int
  parent : Int
  name : Int
end Go.Proofs.YthabndifdgafbaaGreatDoor.RV.T
end
section
open Go Go.Proofs.YthabndifdgafbaaGreatDoor.RV Go.Proofs.YthabndifdgafbaaGreatDoor.XA.Awk Go.Proofs.YthabndifdgafbaaGreatDoor.RV.ChartMath Go.Proofs
namespace Go.Proofs.YthabndifdgafbaaGreatDoor.RV.T
set_option maxRecDepth 100000
set_option linter.unusedVariables false
set_option linter.unusedSimpArgs false
variable {spc : Sp}
end Go.Proofs.YthabndifdgafbaaGreatDoor.RV.T
end
section
open Go Go.Proofs.YthabndifdgafbaaGreatDoor.RV Go.Proofs.YthabndifdgafbaaGreatDoor.XA.Awk Go.Proofs.YthabndifdgafbaaGreatDoor.RV.ChartMath Go.Proofs
namespace Go.Proofs.YthabndifdgafbaaGreatDoor.RV.T
set_option maxRecDepth 100000
set_option linter.unusedVariables false
set_option linter.unusedSimpArgs false
variable {spc : Sp}
def SI (l : List Int) : Prop := l.Pairwise (· < ·)
structure MadeU (u : List Int) : Prop where
  si : SI u
  rng : ∀ x ∈ u, 1 ≤ x ∧ x ≤ 9
theorem nodup_le : ∀ (m : Nat) (l : List Int), l.Nodup → (∀ x ∈ l, 1 ≤ x ∧ x ≤ (m : Int)) → l.length ≤ m
  | 0, l, _, h => by
    cases l with
    | nil => simp
    | cons x t =>
      have := h x (by simp)
      omega
  | m + 1, l, d, h => by
    have ih := nodup_le m (l.erase ((m + 1 : Nat) : Int)) (d.erase _) (fun x hx => by
      have h1 := (List.Nodup.mem_erase_iff d).1 hx
      have h2 := h x h1.2
      have h3 := h1.1
      omega)
    by_cases hm : ((m + 1 : Nat) : Int) ∈ l
    · rw [List.length_erase_of_mem hm] at ih
      omega
    · rw [List.erase_of_not_mem hm] at ih
      omega
theorem SI.nodup {l : List Int} (S : SI l) : l.Nodup := S.imp (fun h => by omega)
theorem MadeU.len {u : List Int} (h : MadeU u) : u.length ≤ 9 := nodup_le 9 u h.si.nodup h.rng
end Go.Proofs.YthabndifdgafbaaGreatDoor.RV.T
end
section
open Go Go.Proofs.YthabndifdgafbaaGreatDoor.RV Go.Proofs.YthabndifdgafbaaGreatDoor.XA.Awk Go.Proofs.YthabndifdgafbaaGreatDoor.RV.ChartMath Go.Proofs
namespace Go.Proofs.YthabndifdgafbaaGreatDoor.RV.T
set_option maxRecDepth 100000
set_option linter.unusedVariables false
set_option linter.unusedSimpArgs false
variable {spc : Sp}
structure MadeC (a : Int) (s : List Int) (e : Int) : Prop where
  si : SI s
  len : 1 ≤ s.length ∧ s.length ≤ 13
  first : s[0]? = some a
  low : ∀ x ∈ s, a ≤ x ∧ x ≤ a + 480 ∧ x + 31 ≤ e
  end_ : e ≤ a + 511
theorem make08_ok (a : Int) (l : List Int) (p : PV) (hp : IsSl 1 (l.map u8P) p) (hl : l.length < 9223372036854775807) (ha : -32768 ≤ a ∧ a ≤ 32767) (hw : ∀ x ∈ l, 0 ≤ x ∧ x ≤ 255) : Fn (cfg spc) 27 [i16P a, p] (fun q => ∃ s e r, MadeC a s e ∧ IsSl 1 (s.map i32P) r ∧ q = .agg [r, i32P e]) := by
  refine Fn.go Tryz.func27 (L := [(0, _), (1, _)]) rfl rfl rfl (by simp [deepL, hp.deep, deepB]) rfl ?_
  refine Ps.seq ?_
  refine Ps.region rfl ?_
  refine Rs.alloc (z := .agg [_, _]) (c := 2) rfl rfl rfl (fun g4 => ?_)
  refine Rs.nil ?_
  refine Ps.thn ?_
  refine Ps.seq ?_
  refine Ps.region rfl ?_
  refine Rs.move rfl rfl ?_
  refine Rs.convI rfl rfl ⟨_, rfl⟩ rfl rfl (by first | exact W_i32 (by omega) (by omega) | rfl) ?_
  refine Rs.assign rfl rfl ?_
  refine Rs.nil ?_
  refine Ps.thn ?_
  refine Ps.seq ?_
  refine Ps.region rfl ?_
  refine Rs.move rfl rfl ?_
  refine Rs.buildSlice (l := [_]) rfl rfl rfl rfl (by first | rfl | simp [deepL, deepB, *]) ?_
  refine Rs.buildB (cs := [(0, [_])]) (l := [_, _]) rfl rfl (by first | rfl | simp only [cellsOf]; rfl) rfl ?_
  refine Rs.alloc (z := .agg [_, _]) (c := 2) rfl rfl rfl (fun g6 => ?_)
  first | refine Rs.store0 (l' := [.agg [_, _]]) rfl rfl rfl (by first | rfl | exact storeB_ag rfl rfl rfl (by simp [scalars, sc_int, sc_str, sc_bool, sc_nil, sc_dsl, sc_own, sc_g, sc_f, *]) | exact storeB_fld rfl (by first | assumption | exact cl_g | exact cl_f) (by first | assumption | exact sc_g | exact sc_f) rfl) ?_ | refine Rs.store1 (l' := [.agg [_, _]]) rfl rfl rfl (by first | rfl | exact storeB_ag rfl rfl rfl (by simp [scalars, sc_int, sc_str, sc_bool, sc_nil, sc_dsl, sc_own, sc_g, sc_f, *]) | exact storeB_fld rfl (by first | assumption | exact cl_g | exact cl_f) (by first | assumption | exact sc_g | exact sc_f) rfl) ?_ | refine Rs.store2 (l' := [.agg [_, _]]) rfl rfl rfl (by first | rfl | exact storeB_ag rfl rfl rfl (by simp [scalars, sc_int, sc_str, sc_bool, sc_nil, sc_dsl, sc_own, sc_g, sc_f, *]) | exact storeB_fld rfl (by first | assumption | exact cl_g | exact cl_f) (by first | assumption | exact sc_g | exact sc_f) rfl) ?_ | refine Rs.store3 (l' := [.agg [_, _]]) rfl rfl rfl (by first | rfl | exact storeB_ag rfl rfl rfl (by simp [scalars, sc_int, sc_str, sc_bool, sc_nil, sc_dsl, sc_own, sc_g, sc_f, *]) | exact storeB_fld rfl (by first | assumption | exact cl_g | exact cl_f) (by first | assumption | exact sc_g | exact sc_f) rfl) ?_
  refine Rs.nil ?_
  refine Ps.thn ?_
  refine Ps.seq ?_
  refine Ps.seq ?_
  refine Ps.region rfl ?_
  refine Rs.move rfl rfl ?_
  first | refine Rs.lenD rfl rfl rfl rfl ?_ | refine Rs.lenO rfl rfl rfl rfl ?_ | refine Rs.lenI rfl rfl rfl rfl ?_ | refine Rs.lenA rfl rfl rfl rfl (by assumption) ?_ | refine Rs.lenS rfl rfl rfl rfl (by assumption) ?_
  refine Rs.move (p := .lit _) rfl rfl ?_
  refine Rs.nil ?_
  refine Ps.thn ?_
  refine Ps.block ?_
  -- loop 1 writes [5, 7, 8, 16, 17, 18, 19, 20, 21, 22, 23, 24, 25, 26, 27, 28, 29, 30, 31, 32, 33, 34, 35]
  refine Ps.loop (J := Nat × List Int × Int × Option (Nat × Nat)) ⟨fun j => j.1 ≤ l.length ∧ j.1 ≤ 12 ∧ j.2.1.length = j.1 + 1 ∧ SI j.2.1 ∧ j.2.1[0]? = some a ∧ (∀ x ∈ j.2.1, a ≤ x ∧ x ≤ j.2.2.1) ∧ a ≤ j.2.2.1 ∧ j.2.2.1 ≤ a + 40 * j.1, fun j => [(5, i32P j.2.2.1), (16, i64P j.1)], fun j => (g6, 0, .blk 2 [.agg [fP 1 j.2.2.2 (j.2.1.map i32P), i32P 0]] true) :: (g4, 0, .blk 2 [.agg [nilP, i32P 0]] true) :: (fM 1 j.2.2.2 (j.2.1.map i32P) ++ []), fun j => l.length - j.1⟩ [5, 7, 8, 16, 17, 18, 19, 20, 21, 22, 23, 24, 25, 26, 27, 28, 29, 30, 31, 32, 33, 34, 35] [(15, _), (14, _), (6, _), (13, _), (12, _), (11, _), (10, _), (9, _), (4, _), (0, _), (1, _)] (0, [a], a, none) rfl ⟨Nat.zero_le _, Nat.zero_le _, rfl, List.pairwise_singleton _ _, rfl, by simp, by simp, by simp⟩ ⟨rfl, rfl, trivial⟩ (List.Sublist.refl _) (fun j hj => ?_)
  obtain ⟨j, s, d, b⟩ := j
  obtain ⟨hj, h12, hsl, hsi, hs0, hsb, hd0, hd1⟩ : j ≤ l.length ∧ j ≤ 12 ∧ s.length = j + 1 ∧ SI s ∧ s[0]? = some a ∧ (∀ x ∈ s, a ≤ x ∧ x ≤ d) ∧ a ≤ d ∧ d ≤ a + 40 * j := hj
  dsimp only [List.cons_append, List.nil_append]
  refine Ps.seq ?_
  refine Ps.region rfl ?_
  refine Rs.binB rfl rfl rfl rfl rfl rfl ?_
  refine Rs.nil ?_
  refine Ps.thn ?_
  refine Ps.seq ?_
  refine Ps.if rfl (fun hc => ?_) (fun hc => ?_)
  · try replace hc := dc hc
    refine Ps.skip ?_
    refine Ps.thn ?_
    refine Ps.seq ?_
    refine Ps.block ?_
    refine Ps.seq ?_
    have hlt : j < l.length := by simp at hc; omega
    obtain ⟨x, hx⟩ := at_lt hlt
    have hw1 := hw x (List.mem_of_getElem? hx)
    refine Ps.region rfl ?_
    refine Rs.move rfl rfl ?_
    first | refine Rs.indexD (lc := [_]) rfl rfl rfl rfl rfl rfl (map_at hx) rfl ?_ | refine Rs.indexS (lc := [_]) rfl rfl rfl rfl rfl (by assumption) rfl (map_at hx) rfl ?_
    first | refine Rs.loadR rfl rfl rfl rfl ?_ | refine Rs.loadP 0 rfl rfl rfl rfl rfl ?_ | refine Rs.loadP 1 rfl rfl rfl rfl rfl ?_ | refine Rs.loadP 2 rfl rfl rfl rfl rfl ?_ | refine Rs.loadP 3 rfl rfl rfl rfl rfl ?_
    refine Rs.assign rfl rfl ?_
    refine Rs.assign rfl rfl ?_
    refine Rs.nil ?_
    refine Ps.thn ?_
    refine Ps.seq ?_
    refine Ps.seq ?_
    refine Ps.region rfl ?_
    refine Rs.move rfl rfl ?_
    refine Rs.binB rfl rfl rfl rfl rfl rfl ?_
    refine Rs.nil ?_
    refine Ps.thn ?_
    refine Ps.if rfl (fun hc => ?_) (fun hc => ?_)
    · try replace hc := dc hc
      refine Ps.exit ?_
      refine Ps.thn_exit ?_
      refine Ps.blk_there rfl ?_
      refine Ps.thn_exit ?_
      refine Ps.rnd_exit ?_
      refine Ps.blk_here ?_
      refine Ps.thn ?_
      refine Ps.seq ?_
      refine Ps.region rfl ?_
      refine Rs.move rfl rfl ?_
      refine Rs.add rfl rfl rfl (by first | exact W_i32 (by omega) (by omega) | rfl) ?_
      first | refine Rs.fieldAddrD (off' := 1) rfl rfl rfl rfl ?_ | refine Rs.fieldAddrP (off' := 1) rfl rfl rfl rfl ?_
      first | refine Rs.store0 (l' := [.agg [_, _]]) rfl rfl rfl (by first | rfl | exact storeB_ag rfl rfl rfl (by simp [scalars, sc_int, sc_str, sc_bool, sc_nil, sc_dsl, sc_own, sc_g, sc_f, *]) | exact storeB_fld rfl (by first | assumption | exact cl_g | exact cl_f) (by first | assumption | exact sc_g | exact sc_f) rfl) ?_ | refine Rs.store1 (l' := [.agg [_, _]]) rfl rfl rfl (by first | rfl | exact storeB_ag rfl rfl rfl (by simp [scalars, sc_int, sc_str, sc_bool, sc_nil, sc_dsl, sc_own, sc_g, sc_f, *]) | exact storeB_fld rfl (by first | assumption | exact cl_g | exact cl_f) (by first | assumption | exact sc_g | exact sc_f) rfl) ?_ | refine Rs.store2 (l' := [.agg [_, _]]) rfl rfl rfl (by first | rfl | exact storeB_ag rfl rfl rfl (by simp [scalars, sc_int, sc_str, sc_bool, sc_nil, sc_dsl, sc_own, sc_g, sc_f, *]) | exact storeB_fld rfl (by first | assumption | exact cl_g | exact cl_f) (by first | assumption | exact sc_g | exact sc_f) rfl) ?_ | refine Rs.store3 (l' := [.agg [_, _]]) rfl rfl rfl (by first | rfl | exact storeB_ag rfl rfl rfl (by simp [scalars, sc_int, sc_str, sc_bool, sc_nil, sc_dsl, sc_own, sc_g, sc_f, *]) | exact storeB_fld rfl (by first | assumption | exact cl_g | exact cl_f) (by first | assumption | exact sc_g | exact sc_f) rfl) ?_
      refine Rs.nil ?_
      refine Ps.thn ?_
      refine Ps.seq ?_
      refine Ps.region rfl ?_
      first | refine Rs.loadR (p := .agg [_, _]) rfl rfl rfl rfl ?_ | refine Rs.loadP (p := .agg [_, _]) 0 rfl rfl rfl rfl rfl ?_ | refine Rs.loadP (p := .agg [_, _]) 1 rfl rfl rfl rfl rfl ?_ | refine Rs.loadP (p := .agg [_, _]) 2 rfl rfl rfl rfl rfl ?_ | refine Rs.loadP (p := .agg [_, _]) 3 rfl rfl rfl rfl rfl ?_
      refine Rs.store1 (l' := [.agg [fP 1 b (s.map i32P), i32P (d + 31)]]) rfl rfl rfl (by cases b <;> rfl) ?_
      refine Rs.nil ?_
      refine Ps.thn ?_
      refine Ps.ret ?_
      -- leaf 1 (ret)
      refine Ps.finX (l := [_]) rfl (by (first | refine ResR.cell (p := .agg [_, _]) 0 rfl rfl rfl ?_ | refine ResR.cell (p := .agg [_, _]) 1 rfl rfl rfl ?_ | refine ResR.cell (p := .agg [_, _]) 2 rfl rfl rfl ?_ | refine ResR.cell (p := .agg [_, _]) 3 rfl rfl rfl ?_); exact ResR.nil) (fun H hH => ?_)
      obtain ⟨q, hq, hd⟩ := Dp.f (s := 1) (a := b) (l := s.map i32P) hH (fun x hx => by simp [hx]) (by intro p hp; obtain ⟨x, _, rfl⟩ := List.mem_map.1 hp; rfl) (by simp; omega)
      refine ⟨_, (Dp.agg (DpL.cons hd (DpL.cons (Dp.plain 95000 rfl rfl) DpL.nil)) (m := 96000) rfl).top rfl, s, d + 31, q, ⟨hsi, by omega, hs0, fun x hx => ?_, by omega⟩, hq, rfl⟩
      have := hsb x hx
      omega
    · try replace hc := dc hc
      refine Ps.skip ?_
      refine Ps.thn ?_
      refine Ps.seq ?_
      refine Ps.region rfl ?_
      refine Rs.move rfl rfl ?_
      refine Rs.move rfl rfl ?_
      refine Rs.rem rfl rfl rfl (by omega) (by first | exact Int.tmod_eq_emod_of_nonneg (by omega) | rfl) ?_
      refine Rs.convI rfl rfl ⟨_, rfl⟩ rfl rfl (by first | exact W_i32 (by omega) (by omega) | rfl) ?_
      refine Rs.add rfl rfl rfl (by first | exact W_i32 (by omega) (by omega) | rfl) ?_
      refine Rs.add rfl rfl rfl (by first | exact W_i32 (by omega) (by omega) | rfl) ?_
      refine Rs.assign rfl rfl ?_
      refine Rs.nil ?_
      refine Ps.thn ?_
      refine Ps.region rfl ?_
      first | refine Rs.fieldAddrD (off' := 0) rfl rfl rfl rfl ?_ | refine Rs.fieldAddrP (off' := 0) rfl rfl rfl rfl ?_
      first | refine Rs.loadR rfl rfl rfl rfl ?_ | refine Rs.loadP 0 rfl rfl rfl rfl rfl ?_ | refine Rs.loadP 1 rfl rfl rfl rfl rfl ?_ | refine Rs.loadP 2 rfl rfl rfl rfl rfl ?_ | refine Rs.loadP 3 rfl rfl rfl rfl rfl ?_
      refine Rs.move rfl rfl ?_
      refine Rs.buildSlice (l := [_]) rfl rfl rfl rfl (by first | rfl | simp [deepL, deepB, *]) ?_
      refine Rs.appendF2 1 4 rfl rfl ⟨_, rfl⟩ rfl rfl rfl rfl rfl rfl rfl rfl rfl rfl rfl rfl (by simp; omega) (fun id v => ?_)
      first | refine Rs.fieldAddrD (off' := 0) rfl rfl rfl rfl ?_ | refine Rs.fieldAddrP (off' := 0) rfl rfl rfl rfl ?_
      first | refine Rs.store0 (l' := [.agg [_, _]]) rfl rfl rfl (by first | rfl | exact storeB_ag rfl rfl rfl (by simp [scalars, sc_int, sc_str, sc_bool, sc_nil, sc_dsl, sc_own, sc_g, sc_f, *]) | exact storeB_fld rfl (by first | assumption | exact cl_g | exact cl_f) (by first | assumption | exact sc_g | exact sc_f) rfl) ?_ | refine Rs.store1 (l' := [.agg [_, _]]) rfl rfl rfl (by first | rfl | exact storeB_ag rfl rfl rfl (by simp [scalars, sc_int, sc_str, sc_bool, sc_nil, sc_dsl, sc_own, sc_g, sc_f, *]) | exact storeB_fld rfl (by first | assumption | exact cl_g | exact cl_f) (by first | assumption | exact sc_g | exact sc_f) rfl) ?_ | refine Rs.store2 (l' := [.agg [_, _]]) rfl rfl rfl (by first | rfl | exact storeB_ag rfl rfl rfl (by simp [scalars, sc_int, sc_str, sc_bool, sc_nil, sc_dsl, sc_own, sc_g, sc_f, *]) | exact storeB_fld rfl (by first | assumption | exact cl_g | exact cl_f) (by first | assumption | exact sc_g | exact sc_f) rfl) ?_ | refine Rs.store3 (l' := [.agg [_, _]]) rfl rfl rfl (by first | rfl | exact storeB_ag rfl rfl rfl (by simp [scalars, sc_int, sc_str, sc_bool, sc_nil, sc_dsl, sc_own, sc_g, sc_f, *]) | exact storeB_fld rfl (by first | assumption | exact cl_g | exact cl_f) (by first | assumption | exact sc_g | exact sc_f) rfl) ?_
      refine Rs.nil ?_
      refine Ps.blk ?_
      refine Ps.thn ?_
      refine Ps.region rfl ?_
      refine Rs.add rfl rfl rfl (by first | exact W_i64s (by omega) | exact W_i64 (by omega) (by omega) | rfl) ?_
      refine Rs.move rfl rfl ?_
      refine Rs.nil ?_
      -- leaf 2 (round1)
      have hs' : s ≠ [] := by intro e; subst e; simp at hsl
      rw [show List.map i32P s ++ [PV.lit (Value.int IntKind.i32 (d + (1 + x % 40)))] = List.map i32P (s ++ [d + (1 + x % 40)]) by simp]
      refine Ps.round (j + 1, s ++ [d + (1 + x % 40)], d + (1 + x % 40), some (id, v)) ⟨hlt, ?_, by simp [hsl], ?_, ?_, ?_, ?_, ?_⟩ (by show l.length - (j + 1) < l.length - j; omega) ⟨rfl, rfl, trivial⟩ (by repeat' first | exact HasL.nil | refine HasL.cons rfl ?_) (List.Sublist.refl _)
      · show j + 1 ≤ 12; omega
      · refine List.pairwise_append.2 ⟨hsi, List.pairwise_singleton _ _, fun z hz w hw => ?_⟩
        rw [List.mem_singleton.1 hw]
        have := hsb z hz
        omega
      · show (s ++ [d + (1 + x % 40)])[0]? = some a
        rw [List.getElem?_append_left (by omega)]
        exact hs0
      · intro z hz
        show a ≤ z ∧ z ≤ d + (1 + x % 40)
        rcases List.mem_append.1 hz with hz | hz
        · have := hsb z hz; omega
        · rw [List.mem_singleton.1 hz]; omega
      · show a ≤ d + (1 + x % 40); omega
      · show d + (1 + x % 40) ≤ a + 40 * ((j + 1 : Nat) : Int); omega
  · try replace hc := dc hc
    refine Ps.exit ?_
    refine Ps.thn_exit ?_
    refine Ps.rnd_exit ?_
    refine Ps.blk_here ?_
    refine Ps.thn ?_
    refine Ps.seq ?_
    refine Ps.region rfl ?_
    refine Rs.move rfl rfl ?_
    refine Rs.add rfl rfl rfl (by first | exact W_i32 (by omega) (by omega) | rfl) ?_
    first | refine Rs.fieldAddrD (off' := 1) rfl rfl rfl rfl ?_ | refine Rs.fieldAddrP (off' := 1) rfl rfl rfl rfl ?_
    first | refine Rs.store0 (l' := [.agg [_, _]]) rfl rfl rfl (by first | rfl | exact storeB_ag rfl rfl rfl (by simp [scalars, sc_int, sc_str, sc_bool, sc_nil, sc_dsl, sc_own, sc_g, sc_f, *]) | exact storeB_fld rfl (by first | assumption | exact cl_g | exact cl_f) (by first | assumption | exact sc_g | exact sc_f) rfl) ?_ | refine Rs.store1 (l' := [.agg [_, _]]) rfl rfl rfl (by first | rfl | exact storeB_ag rfl rfl rfl (by simp [scalars, sc_int, sc_str, sc_bool, sc_nil, sc_dsl, sc_own, sc_g, sc_f, *]) | exact storeB_fld rfl (by first | assumption | exact cl_g | exact cl_f) (by first | assumption | exact sc_g | exact sc_f) rfl) ?_ | refine Rs.store2 (l' := [.agg [_, _]]) rfl rfl rfl (by first | rfl | exact storeB_ag rfl rfl rfl (by simp [scalars, sc_int, sc_str, sc_bool, sc_nil, sc_dsl, sc_own, sc_g, sc_f, *]) | exact storeB_fld rfl (by first | assumption | exact cl_g | exact cl_f) (by first | assumption | exact sc_g | exact sc_f) rfl) ?_ | refine Rs.store3 (l' := [.agg [_, _]]) rfl rfl rfl (by first | rfl | exact storeB_ag rfl rfl rfl (by simp [scalars, sc_int, sc_str, sc_bool, sc_nil, sc_dsl, sc_own, sc_g, sc_f, *]) | exact storeB_fld rfl (by first | assumption | exact cl_g | exact cl_f) (by first | assumption | exact sc_g | exact sc_f) rfl) ?_
    refine Rs.nil ?_
    refine Ps.thn ?_
    refine Ps.seq ?_
    refine Ps.region rfl ?_
    first | refine Rs.loadR (p := .agg [_, _]) rfl rfl rfl rfl ?_ | refine Rs.loadP (p := .agg [_, _]) 0 rfl rfl rfl rfl rfl ?_ | refine Rs.loadP (p := .agg [_, _]) 1 rfl rfl rfl rfl rfl ?_ | refine Rs.loadP (p := .agg [_, _]) 2 rfl rfl rfl rfl rfl ?_ | refine Rs.loadP (p := .agg [_, _]) 3 rfl rfl rfl rfl rfl ?_
    refine Rs.store1 (l' := [.agg [fP 1 b (s.map i32P), i32P (d + 31)]]) rfl rfl rfl (by cases b <;> rfl) ?_
    refine Rs.nil ?_
    refine Ps.thn ?_
    refine Ps.ret ?_
    -- leaf 3 (ret)
    refine Ps.finX (l := [_]) rfl (by (first | refine ResR.cell (p := .agg [_, _]) 0 rfl rfl rfl ?_ | refine ResR.cell (p := .agg [_, _]) 1 rfl rfl rfl ?_ | refine ResR.cell (p := .agg [_, _]) 2 rfl rfl rfl ?_ | refine ResR.cell (p := .agg [_, _]) 3 rfl rfl rfl ?_); exact ResR.nil) (fun H hH => ?_)
    obtain ⟨q, hq, hd⟩ := Dp.f (s := 1) (a := b) (l := s.map i32P) hH (fun x hx => by simp [hx]) (by intro p hp; obtain ⟨x, _, rfl⟩ := List.mem_map.1 hp; rfl) (by simp; omega)
    refine ⟨_, (Dp.agg (DpL.cons hd (DpL.cons (Dp.plain 95000 rfl rfl) DpL.nil)) (m := 96000) rfl).top rfl, s, d + 31, q, ⟨hsi, by omega, hs0, fun x hx => ?_, by omega⟩, hq, rfl⟩
    have := hsb x hx
    omega
end Go.Proofs.YthabndifdgafbaaGreatDoor.RV.T
end
section
open Go Go.Proofs.YthabndifdgafbaaGreatDoor.RV Go.Proofs.YthabndifdgafbaaGreatDoor.XA.Awk Go.Proofs.YthabndifdgafbaaGreatDoor.RV.ChartMath Go.Proofs
namespace Go.Proofs.YthabndifdgafbaaGreatDoor.RV.T
set_option maxRecDepth 100000
set_option linter.unusedVariables false
set_option linter.unusedSimpArgs false
variable {spc : Sp}
theorem storeB_flds {P : Program} {t : TypeId} {es vs : List PV} {off n : Nat} (hn : szO P t = some n) (h1 : Nat.beq vs.length n = true) (h2 : Nat.ble (off + n) es.length = true) (hs : scalars vs = true) : storeB P t [.agg es] 0 off (.agg vs) = some [.agg (splice es off vs)] := by
  have h1 := Nat.eq_of_beq_eq_true h1
  have h2 := Nat.le_of_ble_eq_true h2
  unfold storeB
  rw [hn]
  dsimp only [List.getElem?_cons_zero]
  rw [if_pos (by exact ⟨h1, h2, hs⟩)]
  rfl
def partP (q : Int × Int) : PV := .agg [u32P q.1, i64P q.2]
def rpP (q : Int × Int) : PV := .agg [u8P q.1, u32P q.2]
structure RawOk (k f t : Int) (ps : List (Int × Int)) : Prop where
  hk : 0 ≤ k ∧ k ≤ 7
  hf : 0 ≤ f ∧ f ≤ 256
  ht : 0 ≤ t ∧ t ≤ 256
  len : ps.length ≤ 8
  hps : ∀ q ∈ ps, (1 ≤ q.1 ∧ q.1 ≤ 256) ∧ 1 ≤ q.2 ∧ q.2 ≤ 1000000
  split : k = 4 → 1 ≤ ps.length
def IsRaw (k : Int) (q : PV) : Prop := ∃ (f t : Int) (nm : ByteArray) (ps : List (Int × Int)) (pp : PV) (ss : List Int) (cp : PV) (ce : Int), RawOk k f t ps ∧ IsSl 2 (ps.map partP) pp ∧ IsSl 1 (ss.map i32P) cp ∧ q = .agg [i64P k, u32P f, u32P t, strP nm, pp, cp, i32P ce, i64P 0]
theorem raw_ok (k a b n : Int) (hk : 0 ≤ k ∧ k ≤ 255) (ha : 0 ≤ a ∧ a ≤ 255) (hb : 0 ≤ b ∧ b ≤ 255) (hn : 0 ≤ n ∧ n ≤ 255) (ps : List (Int × Int)) (pp : PV) (hp : IsSl 2 (ps.map rpP) pp) (hpl : ps.length < 9223372036854775807) (hpw : ∀ q ∈ ps, (0 ≤ q.1 ∧ q.1 ≤ 255) ∧ 0 ≤ q.2 ∧ q.2 ≤ 4294967295)
    (first : Int) (hf : -32768 ≤ first ∧ first ≤ 32767) (long : List Int) (lp : PV) (hl : IsSl 1 (long.map u8P) lp) (hll : long.length < 9223372036854775807) (hlw : ∀ x ∈ long, 0 ≤ x ∧ x ≤ 255) : Fn (cfg spc) 12 [.agg [u8P k, u8P a, u8P b, u8P n, pp, i16P first, lp]] (IsRaw (k % 8)) := by
  refine Fn.go Tryz.func12 (L := [(0, _)]) rfl rfl rfl (by simp [deepL, deepB]; exact ⟨hp.deep, hl.deep⟩) rfl ?_
  refine Ps.seq ?_
  refine Ps.region rfl ?_
  refine Rs.box (l := [u8P k, u8P a, u8P b, u8P n, pp, i16P first, lp]) rfl rfl rfl (by simp [deepB, deepL]; exact ⟨hp.deep, hl.deep⟩) rfl ?_
  refine Rs.alloc (z := .agg [_, _, _, _, _, _, _, _]) (c := 8) rfl rfl rfl (fun g2 => ?_)
  refine Rs.nil ?_
  refine Ps.thn ?_
  refine Ps.seq ?_
  refine Ps.region rfl ?_
  first | refine Rs.fieldAddrD rfl rfl rfl rfl ?_ | refine Rs.fieldAddrP rfl rfl rfl rfl ?_
  refine Rs.loadD rfl rfl rfl rfl ?_
  refine Rs.rem rfl rfl rfl (by omega) (by first | exact Int.tmod_eq_emod_of_nonneg (by omega) | rfl) ?_
  refine Rs.convI rfl rfl ⟨_, rfl⟩ rfl rfl (by first | exact W_i64 (by omega) (by omega) | rfl) ?_
  first | refine Rs.fieldAddrD rfl rfl rfl rfl ?_ | refine Rs.fieldAddrP rfl rfl rfl rfl ?_
  refine Rs.loadD rfl rfl rfl rfl ?_
  refine Rs.convI rfl rfl ⟨_, rfl⟩ rfl rfl (by first | exact W_u32 (by omega) (by omega) | rfl) ?_
  refine Rs.add rfl rfl rfl (by first | exact W_u32 (by omega) (by omega) | rfl) ?_
  refine Rs.buildB (cs := [(0, [_]), (1, [_])]) (l := [_, _, _, _, _, _, _, _]) rfl rfl (by first | rfl | simp only [cellsOf]; rfl) rfl ?_
  refine Rs.alloc (z := .agg [_, _, _, _, _, _, _, _]) (c := 8) rfl rfl rfl (fun g3 => ?_)
  first | refine Rs.store0 (l' := [.agg [_, _, _, _, _, _, _, _]]) rfl rfl rfl (by first | rfl | exact storeB_ag rfl rfl rfl (by simp [scalars, sc_int, sc_str, sc_bool, sc_nil, sc_dsl, sc_own, sc_g, sc_f, *]) | exact storeB_fld rfl (by first | assumption | exact cl_g | exact cl_f) (by first | assumption | exact sc_g | exact sc_f) rfl) ?_ | refine Rs.store1 (l' := [.agg [_, _, _, _, _, _, _, _]]) rfl rfl rfl (by first | rfl | exact storeB_ag rfl rfl rfl (by simp [scalars, sc_int, sc_str, sc_bool, sc_nil, sc_dsl, sc_own, sc_g, sc_f, *]) | exact storeB_fld rfl (by first | assumption | exact cl_g | exact cl_f) (by first | assumption | exact sc_g | exact sc_f) rfl) ?_ | refine Rs.store2 (l' := [.agg [_, _, _, _, _, _, _, _]]) rfl rfl rfl (by first | rfl | exact storeB_ag rfl rfl rfl (by simp [scalars, sc_int, sc_str, sc_bool, sc_nil, sc_dsl, sc_own, sc_g, sc_f, *]) | exact storeB_fld rfl (by first | assumption | exact cl_g | exact cl_f) (by first | assumption | exact sc_g | exact sc_f) rfl) ?_ | refine Rs.store3 (l' := [.agg [_, _, _, _, _, _, _, _]]) rfl rfl rfl (by first | rfl | exact storeB_ag rfl rfl rfl (by simp [scalars, sc_int, sc_str, sc_bool, sc_nil, sc_dsl, sc_own, sc_g, sc_f, *]) | exact storeB_fld rfl (by first | assumption | exact cl_g | exact cl_f) (by first | assumption | exact sc_g | exact sc_f) rfl) ?_
  refine Rs.nil ?_
  refine Ps.thn ?_
  refine Ps.seq ?_
  refine Ps.seq ?_
  refine Ps.region rfl ?_
  first | refine Rs.fieldAddrD (off' := 0) rfl rfl rfl rfl ?_ | refine Rs.fieldAddrP (off' := 0) rfl rfl rfl rfl ?_
  first | refine Rs.loadR rfl rfl rfl rfl ?_ | refine Rs.loadP 0 rfl rfl rfl rfl rfl ?_ | refine Rs.loadP 1 rfl rfl rfl rfl rfl ?_ | refine Rs.loadP 2 rfl rfl rfl rfl rfl ?_ | refine Rs.loadP 3 rfl rfl rfl rfl rfl ?_
  refine Rs.nil ?_
  refine Ps.thn ?_
  refine Ps.block ?_
  refine Ps.seq ?_
  refine Ps.region rfl ?_
  refine Rs.binB rfl rfl rfl rfl rfl rfl ?_
  refine Rs.assign rfl rfl ?_
  refine Rs.nil ?_
  refine Ps.thn ?_
  refine Ps.if rfl (fun hc => ?_) (fun hc => ?_)
  · try replace hc := dc hc
    refine Ps.region rfl ?_
    first | refine Rs.fieldAddrD rfl rfl rfl rfl ?_ | refine Rs.fieldAddrP rfl rfl rfl rfl ?_
    refine Rs.loadD rfl rfl rfl rfl ?_
    refine Rs.call0 rfl rfl rfl (name_ok _ (by omega)) (fun p26 hp => ?_)
    obtain rfl := hp
    first | refine Rs.fieldAddrD (off' := 3) rfl rfl rfl rfl ?_ | refine Rs.fieldAddrP (off' := 3) rfl rfl rfl rfl ?_
    first | refine Rs.store0 (l' := [.agg [_, _, _, _, _, _, _, _]]) rfl rfl rfl (by first | rfl | exact storeB_ag rfl rfl rfl (by simp [scalars, sc_int, sc_str, sc_bool, sc_nil, sc_dsl, sc_own, sc_g, sc_f, *]) | exact storeB_fld rfl (by first | assumption | exact cl_g | exact cl_f) (by first | assumption | exact sc_g | exact sc_f) rfl) ?_ | refine Rs.store1 (l' := [.agg [_, _, _, _, _, _, _, _]]) rfl rfl rfl (by first | rfl | exact storeB_ag rfl rfl rfl (by simp [scalars, sc_int, sc_str, sc_bool, sc_nil, sc_dsl, sc_own, sc_g, sc_f, *]) | exact storeB_fld rfl (by first | assumption | exact cl_g | exact cl_f) (by first | assumption | exact sc_g | exact sc_f) rfl) ?_ | refine Rs.store2 (l' := [.agg [_, _, _, _, _, _, _, _]]) rfl rfl rfl (by first | rfl | exact storeB_ag rfl rfl rfl (by simp [scalars, sc_int, sc_str, sc_bool, sc_nil, sc_dsl, sc_own, sc_g, sc_f, *]) | exact storeB_fld rfl (by first | assumption | exact cl_g | exact cl_f) (by first | assumption | exact sc_g | exact sc_f) rfl) ?_ | refine Rs.store3 (l' := [.agg [_, _, _, _, _, _, _, _]]) rfl rfl rfl (by first | rfl | exact storeB_ag rfl rfl rfl (by simp [scalars, sc_int, sc_str, sc_bool, sc_nil, sc_dsl, sc_own, sc_g, sc_f, *]) | exact storeB_fld rfl (by first | assumption | exact cl_g | exact cl_f) (by first | assumption | exact sc_g | exact sc_f) rfl) ?_
    refine Rs.nil ?_
    refine Ps.blk ?_
    refine Ps.thn ?_
    refine Ps.seq ?_
    refine Ps.region rfl ?_
    first | refine Rs.loadR (p := .agg [_, _, _, _, _, _, _, _]) rfl rfl rfl rfl ?_ | refine Rs.loadP (p := .agg [_, _, _, _, _, _, _, _]) 0 rfl rfl rfl rfl rfl ?_ | refine Rs.loadP (p := .agg [_, _, _, _, _, _, _, _]) 1 rfl rfl rfl rfl rfl ?_ | refine Rs.loadP (p := .agg [_, _, _, _, _, _, _, _]) 2 rfl rfl rfl rfl rfl ?_ | refine Rs.loadP (p := .agg [_, _, _, _, _, _, _, _]) 3 rfl rfl rfl rfl rfl ?_
    first | refine Rs.store0 (l' := [.agg [_, _, _, _, _, _, _, _]]) rfl rfl rfl (by first | rfl | exact storeB_ag rfl rfl rfl (by simp [scalars, sc_int, sc_str, sc_bool, sc_nil, sc_dsl, sc_own, sc_g, sc_f, *]) | exact storeB_fld rfl (by first | assumption | exact cl_g | exact cl_f) (by first | assumption | exact sc_g | exact sc_f) rfl) ?_ | refine Rs.store1 (l' := [.agg [_, _, _, _, _, _, _, _]]) rfl rfl rfl (by first | rfl | exact storeB_ag rfl rfl rfl (by simp [scalars, sc_int, sc_str, sc_bool, sc_nil, sc_dsl, sc_own, sc_g, sc_f, *]) | exact storeB_fld rfl (by first | assumption | exact cl_g | exact cl_f) (by first | assumption | exact sc_g | exact sc_f) rfl) ?_ | refine Rs.store2 (l' := [.agg [_, _, _, _, _, _, _, _]]) rfl rfl rfl (by first | rfl | exact storeB_ag rfl rfl rfl (by simp [scalars, sc_int, sc_str, sc_bool, sc_nil, sc_dsl, sc_own, sc_g, sc_f, *]) | exact storeB_fld rfl (by first | assumption | exact cl_g | exact cl_f) (by first | assumption | exact sc_g | exact sc_f) rfl) ?_ | refine Rs.store3 (l' := [.agg [_, _, _, _, _, _, _, _]]) rfl rfl rfl (by first | rfl | exact storeB_ag rfl rfl rfl (by simp [scalars, sc_int, sc_str, sc_bool, sc_nil, sc_dsl, sc_own, sc_g, sc_f, *]) | exact storeB_fld rfl (by first | assumption | exact cl_g | exact cl_f) (by first | assumption | exact sc_g | exact sc_f) rfl) ?_
    refine Rs.nil ?_
    refine Ps.thn ?_
    refine Ps.ret ?_
    -- leaf 1 (ret)
    first
      | (refine Ps.finX (l := [_]) rfl (by (first | refine ResR.cell (p := .agg [_, _, _, _, _, _, _, _]) 0 rfl rfl rfl ?_ | refine ResR.cell (p := .agg [_, _, _, _, _, _, _, _]) 1 rfl rfl rfl ?_ | refine ResR.cell (p := .agg [_, _, _, _, _, _, _, _]) 2 rfl rfl rfl ?_ | refine ResR.cell (p := .agg [_, _, _, _, _, _, _, _]) 3 rfl rfl rfl ?_); exact ResR.nil) (fun H hH => ?_)
         obtain ⟨q, hq, hd⟩ := Dp.f (s := 2) (a := z) (l := qs.map partP) hH (fun x hx => by simp [hx]) (by intro p hp; obtain ⟨x, _, rfl⟩ := List.mem_map.1 hp; rfl) (by simp; omega)
         refine ⟨_, (Dp.agg (DpL.cons (Dp.plain 95000 rfl rfl) (DpL.cons (Dp.plain 95000 rfl rfl) (DpL.cons (Dp.plain 95000 rfl rfl) (DpL.cons (Dp.plain 95000 rfl rfl) (DpL.cons hd (DpL.cons (Dp.plain 95000 rfl rfl) (DpL.cons (Dp.plain 95000 rfl rfl) (DpL.cons (Dp.plain 95000 rfl rfl) DpL.nil)))))))) (m := 96000) rfl).top rfl, 1 + a, 0, ⟨#[]⟩, qs, q, [], nilP, 0, ⟨by omega, by omega, by omega, hq3, hq4, fun _ => hq2⟩, hq, nil_is, rfl⟩)
      | (refine Ps.finP (l := [_]) rfl (by (first | refine ResR.cell (p := .agg [_, _, _, _, _, _, _, _]) 0 rfl rfl rfl ?_ | refine ResR.cell (p := .agg [_, _, _, _, _, _, _, _]) 1 rfl rfl rfl ?_ | refine ResR.cell (p := .agg [_, _, _, _, _, _, _, _]) 2 rfl rfl rfl ?_ | refine ResR.cell (p := .agg [_, _, _, _, _, _, _, _]) 3 rfl rfl rfl ?_); exact ResR.nil) (by simp [plainP, plainC, List.all, hr8.all]; exact ⟨rfl, rfl, rfl, rfl, rfl, rfl⟩) rfl ⟨0, 0, _, [], nilP, s8, r8, e8, ⟨by omega, by omega, by omega, by simp, by simp, by omega⟩, nil_is, hr8, rfl⟩)
      | (refine Ps.finP (l := [_]) rfl (by (first | refine ResR.cell (p := .agg [_, _, _, _, _, _, _, _]) 0 rfl rfl rfl ?_ | refine ResR.cell (p := .agg [_, _, _, _, _, _, _, _]) 1 rfl rfl rfl ?_ | refine ResR.cell (p := .agg [_, _, _, _, _, _, _, _]) 2 rfl rfl rfl ?_ | refine ResR.cell (p := .agg [_, _, _, _, _, _, _, _]) 3 rfl rfl rfl ?_); exact ResR.nil) rfl rfl ⟨_, _, _, [], nilP, [], nilP, _, ⟨by omega, by omega, by omega, by simp, by simp, by omega⟩, nil_is, nil_is, rfl⟩)
      | (trace_state; sorry)
  · try replace hc := dc hc
    refine Ps.seq ?_
    refine Ps.region rfl ?_
    refine Rs.binB rfl rfl rfl rfl rfl rfl ?_
    refine Rs.assign rfl rfl ?_
    refine Rs.nil ?_
    refine Ps.thn ?_
    refine Ps.if rfl (fun hc => ?_) (fun hc => ?_)
    · try replace hc := dc hc
      refine Ps.seq ?_
      refine Ps.region rfl ?_
      first | refine Rs.fieldAddrD rfl rfl rfl rfl ?_ | refine Rs.fieldAddrP rfl rfl rfl rfl ?_
      refine Rs.loadD rfl rfl rfl rfl ?_
      refine Rs.convI rfl rfl ⟨_, rfl⟩ rfl rfl (by first | exact W_u32 (by omega) (by omega) | rfl) ?_
      refine Rs.add rfl rfl rfl (by first | exact W_u32 (by omega) (by omega) | rfl) ?_
      refine Rs.buildB (cs := [(0, [_]), (1, [_])]) (l := [_, _]) rfl rfl (by first | rfl | simp only [cellsOf]; rfl) rfl ?_
      refine Rs.buildSlice (l := [_]) rfl rfl rfl rfl (by first | rfl | simp [deepL, deepB, *]) ?_
      first | refine Rs.fieldAddrD (off' := 4) rfl rfl rfl rfl ?_ | refine Rs.fieldAddrP (off' := 4) rfl rfl rfl rfl ?_
      first | refine Rs.store0 (l' := [.agg [_, _, _, _, _, _, _, _]]) rfl rfl rfl (by first | rfl | exact storeB_ag rfl rfl rfl (by simp [scalars, sc_int, sc_str, sc_bool, sc_nil, sc_dsl, sc_own, sc_g, sc_f, *]) | exact storeB_fld rfl (by first | assumption | exact cl_g | exact cl_f) (by first | assumption | exact sc_g | exact sc_f) rfl) ?_ | refine Rs.store1 (l' := [.agg [_, _, _, _, _, _, _, _]]) rfl rfl rfl (by first | rfl | exact storeB_ag rfl rfl rfl (by simp [scalars, sc_int, sc_str, sc_bool, sc_nil, sc_dsl, sc_own, sc_g, sc_f, *]) | exact storeB_fld rfl (by first | assumption | exact cl_g | exact cl_f) (by first | assumption | exact sc_g | exact sc_f) rfl) ?_ | refine Rs.store2 (l' := [.agg [_, _, _, _, _, _, _, _]]) rfl rfl rfl (by first | rfl | exact storeB_ag rfl rfl rfl (by simp [scalars, sc_int, sc_str, sc_bool, sc_nil, sc_dsl, sc_own, sc_g, sc_f, *]) | exact storeB_fld rfl (by first | assumption | exact cl_g | exact cl_f) (by first | assumption | exact sc_g | exact sc_f) rfl) ?_ | refine Rs.store3 (l' := [.agg [_, _, _, _, _, _, _, _]]) rfl rfl rfl (by first | rfl | exact storeB_ag rfl rfl rfl (by simp [scalars, sc_int, sc_str, sc_bool, sc_nil, sc_dsl, sc_own, sc_g, sc_f, *]) | exact storeB_fld rfl (by first | assumption | exact cl_g | exact cl_f) (by first | assumption | exact sc_g | exact sc_f) rfl) ?_
      refine Rs.nil ?_
      refine Ps.thn ?_
      refine Ps.seq ?_
      refine Ps.region rfl ?_
      first | refine Rs.fieldAddrD rfl rfl rfl rfl ?_ | refine Rs.fieldAddrP rfl rfl rfl rfl ?_
      refine Rs.loadD rfl rfl rfl rfl ?_
      first | refine Rs.lenD rfl rfl rfl rfl ?_ | refine Rs.lenO rfl rfl rfl rfl ?_ | refine Rs.lenI rfl rfl rfl rfl ?_ | refine Rs.lenA rfl rfl rfl rfl (by assumption) ?_ | refine Rs.lenS rfl rfl rfl rfl (by assumption) ?_
      refine Rs.move (p := .lit _) rfl rfl ?_
      refine Rs.nil ?_
      refine Ps.thn ?_
      refine Ps.block ?_
      -- loop 1 writes [4, 5, 40, 41, 42, 43, 44, 45, 46, 47, 48, 49, 50, 51, 52, 53, 54, 55, 56, 57, 58, 59, 60, 61, 62]
      refine Ps.loop (J := Nat × List (Int × Int) × Option (Nat × Nat)) ⟨fun j => j.1 ≤ ps.length ∧ j.2.1.length ≤ j.1 + 1 ∧ 1 ≤ j.2.1.length ∧ j.2.1.length ≤ 8 ∧ (∀ q ∈ j.2.1, (1 ≤ q.1 ∧ q.1 ≤ 256) ∧ 1 ≤ q.2 ∧ q.2 ≤ 1000000), fun j => [(40, i64P j.1)], fun j => (g3, 0, .blk 8 [.agg [i64P (k % 8), u32P (1 + a), u32P 0, strP ⟨#[]⟩, fP 2 j.2.2 (j.2.1.map partP), nilP, i32P 0, i64P 0]] true) :: (g2, 0, .blk 8 [.agg [i64P 0, u32P 0, u32P 0, strP ⟨#[]⟩, nilP, nilP, i32P 0, i64P 0]] true) :: (fM 2 j.2.2 (j.2.1.map partP) ++ []), fun j => ps.length - j.1⟩ [4, 5, 40, 41, 42, 43, 44, 45, 46, 47, 48, 49, 50, 51, 52, 53, 54, 55, 56, 57, 58, 59, 60, 61, 62] ((39, _) :: (38, _) :: (37, _) :: (36, _) :: (35, _) :: (34, _) :: (33, _) :: (32, _) :: (31, _) :: (30, _) :: (28, _) :: (29, _) :: (22, _) :: (23, _) :: (16, _) :: (15, _) :: (3, _) :: (14, _) :: (13, _) :: (12, _) :: (11, _) :: (10, _) :: (9, _) :: (8, _) :: (7, _) :: (6, _) :: (2, _) :: (1, _) :: (0, _) :: []) (0, [(1 + b, 1)], none) rfl ⟨Nat.zero_le _, by simp, by simp, by simp, by simp; omega⟩ ⟨rfl, trivial⟩ (List.Sublist.refl _) (fun j hj => ?_)
      obtain ⟨j, qs, z⟩ := j
      obtain ⟨hj, hq1, hq2, hq3, hq4⟩ : j ≤ ps.length ∧ qs.length ≤ j + 1 ∧ 1 ≤ qs.length ∧ qs.length ≤ 8 ∧ (∀ q ∈ qs, (1 ≤ q.1 ∧ q.1 ≤ 256) ∧ 1 ≤ q.2 ∧ q.2 ≤ 1000000) := hj
      dsimp only [List.cons_append, List.nil_append]
      refine Ps.seq ?_
      refine Ps.region rfl ?_
      refine Rs.binB rfl rfl rfl rfl rfl rfl ?_
      refine Rs.nil ?_
      refine Ps.thn ?_
      refine Ps.seq ?_
      refine Ps.if rfl (fun hc => ?_) (fun hc => ?_)
      · try replace hc := dc hc
        refine Ps.skip ?_
        refine Ps.thn ?_
        refine Ps.seq ?_
        refine Ps.block ?_
        refine Ps.seq ?_
        have hlt : j < ps.length := by simp at hc; omega
        obtain ⟨x, hx⟩ := at_lt hlt
        obtain ⟨hx1, hx2⟩ := hpw x (List.mem_of_getElem? hx)
        refine Ps.region rfl ?_
        refine Rs.move rfl rfl ?_
        first | refine Rs.indexD (lc := [_, _]) rfl rfl rfl rfl rfl rfl (map_at hx) rfl ?_ | refine Rs.indexS (lc := [_, _]) rfl rfl rfl rfl rfl (by assumption) rfl (map_at hx) rfl ?_
        first | refine Rs.loadR (p := .agg [_, _]) rfl rfl rfl rfl ?_ | refine Rs.loadP (p := .agg [_, _]) 0 rfl rfl rfl rfl rfl ?_ | refine Rs.loadP (p := .agg [_, _]) 1 rfl rfl rfl rfl rfl ?_ | refine Rs.loadP (p := .agg [_, _]) 2 rfl rfl rfl rfl rfl ?_ | refine Rs.loadP (p := .agg [_, _]) 3 rfl rfl rfl rfl rfl ?_
        refine Rs.alloc (z := .agg [_, _]) (c := 2) rfl rfl rfl (fun g5 => ?_)
        refine Rs.assign rfl rfl ?_
        first | refine Rs.store0 (l' := [.agg [_, _]]) rfl rfl rfl (by first | rfl | exact storeB_ag rfl rfl rfl (by simp [scalars, sc_int, sc_str, sc_bool, sc_nil, sc_dsl, sc_own, sc_g, sc_f, *]) | exact storeB_fld rfl (by first | assumption | exact cl_g | exact cl_f) (by first | assumption | exact sc_g | exact sc_f) rfl) ?_ | refine Rs.store1 (l' := [.agg [_, _]]) rfl rfl rfl (by first | rfl | exact storeB_ag rfl rfl rfl (by simp [scalars, sc_int, sc_str, sc_bool, sc_nil, sc_dsl, sc_own, sc_g, sc_f, *]) | exact storeB_fld rfl (by first | assumption | exact cl_g | exact cl_f) (by first | assumption | exact sc_g | exact sc_f) rfl) ?_ | refine Rs.store2 (l' := [.agg [_, _]]) rfl rfl rfl (by first | rfl | exact storeB_ag rfl rfl rfl (by simp [scalars, sc_int, sc_str, sc_bool, sc_nil, sc_dsl, sc_own, sc_g, sc_f, *]) | exact storeB_fld rfl (by first | assumption | exact cl_g | exact cl_f) (by first | assumption | exact sc_g | exact sc_f) rfl) ?_ | refine Rs.store3 (l' := [.agg [_, _]]) rfl rfl rfl (by first | rfl | exact storeB_ag rfl rfl rfl (by simp [scalars, sc_int, sc_str, sc_bool, sc_nil, sc_dsl, sc_own, sc_g, sc_f, *]) | exact storeB_fld rfl (by first | assumption | exact cl_g | exact cl_f) (by first | assumption | exact sc_g | exact sc_f) rfl) ?_
        refine Rs.nil ?_
        refine Ps.thn ?_
        refine Ps.seq ?_
        refine Ps.region rfl ?_
        refine Rs.move rfl rfl ?_
        refine Rs.binB rfl rfl rfl rfl rfl rfl ?_
        refine Rs.nil ?_
        refine Ps.thn ?_
        refine Ps.if rfl (fun hc => ?_) (fun hc => ?_)
        · try replace hc := dc hc
          refine Ps.region rfl ?_
          first | refine Rs.fieldAddrD (off' := 4) rfl rfl rfl rfl ?_ | refine Rs.fieldAddrP (off' := 4) rfl rfl rfl rfl ?_
          first | refine Rs.loadR rfl rfl rfl rfl ?_ | refine Rs.loadP 0 rfl rfl rfl rfl rfl ?_ | refine Rs.loadP 1 rfl rfl rfl rfl rfl ?_ | refine Rs.loadP 2 rfl rfl rfl rfl rfl ?_ | refine Rs.loadP 3 rfl rfl rfl rfl rfl ?_
          first | refine Rs.fieldAddrD (off' := 0) rfl rfl rfl rfl ?_ | refine Rs.fieldAddrP (off' := 0) rfl rfl rfl rfl ?_
          first | refine Rs.loadR rfl rfl rfl rfl ?_ | refine Rs.loadP 0 rfl rfl rfl rfl rfl ?_ | refine Rs.loadP 1 rfl rfl rfl rfl rfl ?_ | refine Rs.loadP 2 rfl rfl rfl rfl rfl ?_ | refine Rs.loadP 3 rfl rfl rfl rfl rfl ?_
          refine Rs.convI rfl rfl ⟨_, rfl⟩ rfl rfl (by first | exact W_u32 (by omega) (by omega) | rfl) ?_
          refine Rs.add rfl rfl rfl (by first | exact W_u32 (by omega) (by omega) | rfl) ?_
          first | refine Rs.fieldAddrD (off' := 1) rfl rfl rfl rfl ?_ | refine Rs.fieldAddrP (off' := 1) rfl rfl rfl rfl ?_
          first | refine Rs.loadR rfl rfl rfl rfl ?_ | refine Rs.loadP 0 rfl rfl rfl rfl rfl ?_ | refine Rs.loadP 1 rfl rfl rfl rfl rfl ?_ | refine Rs.loadP 2 rfl rfl rfl rfl rfl ?_ | refine Rs.loadP 3 rfl rfl rfl rfl rfl ?_
          refine Rs.rem rfl rfl rfl (by omega) (by first | exact Int.tmod_eq_emod_of_nonneg (by omega) | rfl) ?_
          refine Rs.convI rfl rfl ⟨_, rfl⟩ rfl rfl (by first | exact W_i64 (by omega) (by omega) | rfl) ?_
          refine Rs.add rfl rfl rfl (by first | exact W_i64s (by omega) | exact W_i64 (by omega) (by omega) | rfl) ?_
          refine Rs.buildB (cs := [(0, [_]), (1, [_])]) (l := [_, _]) rfl rfl (by first | rfl | simp only [cellsOf]; rfl) rfl ?_
          refine Rs.buildSlice (l := [_]) rfl rfl rfl rfl (by first | rfl | simp [deepL, deepB, *]) ?_
          refine Rs.appendF3 2 16 rfl rfl ⟨_, rfl⟩ rfl rfl rfl rfl rfl rfl rfl rfl rfl rfl rfl rfl (by simp; omega) (fun id v => ?_)
          first | refine Rs.fieldAddrD (off' := 4) rfl rfl rfl rfl ?_ | refine Rs.fieldAddrP (off' := 4) rfl rfl rfl rfl ?_
          first | refine Rs.store0 (l' := [.agg [_, _, _, _, _, _, _, _]]) rfl rfl rfl (by first | rfl | exact storeB_ag rfl rfl rfl (by simp [scalars, sc_int, sc_str, sc_bool, sc_nil, sc_dsl, sc_own, sc_g, sc_f, *]) | exact storeB_fld rfl (by first | assumption | exact cl_g | exact cl_f) (by first | assumption | exact sc_g | exact sc_f) rfl) ?_ | refine Rs.store1 (l' := [.agg [_, _, _, _, _, _, _, _]]) rfl rfl rfl (by first | rfl | exact storeB_ag rfl rfl rfl (by simp [scalars, sc_int, sc_str, sc_bool, sc_nil, sc_dsl, sc_own, sc_g, sc_f, *]) | exact storeB_fld rfl (by first | assumption | exact cl_g | exact cl_f) (by first | assumption | exact sc_g | exact sc_f) rfl) ?_ | refine Rs.store2 (l' := [.agg [_, _, _, _, _, _, _, _]]) rfl rfl rfl (by first | rfl | exact storeB_ag rfl rfl rfl (by simp [scalars, sc_int, sc_str, sc_bool, sc_nil, sc_dsl, sc_own, sc_g, sc_f, *]) | exact storeB_fld rfl (by first | assumption | exact cl_g | exact cl_f) (by first | assumption | exact sc_g | exact sc_f) rfl) ?_ | refine Rs.store3 (l' := [.agg [_, _, _, _, _, _, _, _]]) rfl rfl rfl (by first | rfl | exact storeB_ag rfl rfl rfl (by simp [scalars, sc_int, sc_str, sc_bool, sc_nil, sc_dsl, sc_own, sc_g, sc_f, *]) | exact storeB_fld rfl (by first | assumption | exact cl_g | exact cl_f) (by first | assumption | exact sc_g | exact sc_f) rfl) ?_
          refine Rs.nil ?_
          refine Ps.blk ?_
          refine Ps.thn ?_
          refine Ps.region rfl ?_
          refine Rs.add rfl rfl rfl (by first | exact W_i64s (by omega) | exact W_i64 (by omega) (by omega) | rfl) ?_
          refine Rs.move rfl rfl ?_
          refine Rs.nil ?_
          -- leaf 2 (round1)
          first
            | (rw [show List.map partP qs ++ [PV.agg [u32P (1 + x.1), i64P (1 + x.2 % 1000000)]] = List.map partP (qs ++ [(1 + x.1, 1 + x.2 % 1000000)]) by rw [List.map_append]; rfl]
               refine Ps.round (j + 1, qs ++ [(1 + x.1, 1 + x.2 % 1000000)], some (id, v)) ⟨hlt, by simp; omega, by simp, by simp; omega, ?_⟩ (by show ps.length - (j + 1) < ps.length - j; omega) ⟨rfl, trivial⟩ (by repeat' first | exact HasL.nil | refine HasL.cons rfl ?_) (by repeat' first | exact List.Sublist.refl _ | exact List.nil_sublist _ | exact List.sublist_append_left _ _ | refine List.Sublist.cons_cons _ ?_ | refine List.Sublist.cons _ ?_)
               intro q hq
               rcases List.mem_append.1 hq with hq | hq
               · exact hq4 q hq
               · rw [List.mem_singleton.1 hq]
                 refine ⟨⟨?_, ?_⟩, ?_, ?_⟩ <;> simp only <;> omega)
            | exact Ps.round (j + 1, qs, z) ⟨hlt, by show qs.length ≤ j + 1 + 1; omega, hq2, hq3, hq4⟩ (by show ps.length - (j + 1) < ps.length - j; omega) ⟨rfl, trivial⟩ (by repeat' first | exact HasL.nil | refine HasL.cons rfl ?_) (by repeat' first | exact List.Sublist.refl _ | exact List.nil_sublist _ | exact List.sublist_append_left _ _ | refine List.Sublist.cons_cons _ ?_ | refine List.Sublist.cons _ ?_)
        · try replace hc := dc hc
          refine Ps.skip ?_
          refine Ps.blk ?_
          refine Ps.thn ?_
          refine Ps.region rfl ?_
          refine Rs.add rfl rfl rfl (by first | exact W_i64s (by omega) | exact W_i64 (by omega) (by omega) | rfl) ?_
          refine Rs.move rfl rfl ?_
          refine Rs.nil ?_
          -- leaf 3 (round1)
          first
            | (rw [show List.map partP qs ++ [PV.agg [u32P (1 + x.1), i64P (1 + x.2 % 1000000)]] = List.map partP (qs ++ [(1 + x.1, 1 + x.2 % 1000000)]) by rw [List.map_append]; rfl]
               refine Ps.round (j + 1, qs ++ [(1 + x.1, 1 + x.2 % 1000000)], some (id, v)) ⟨hlt, by simp; omega, by simp, by simp; omega, ?_⟩ (by show ps.length - (j + 1) < ps.length - j; omega) ⟨rfl, trivial⟩ (by repeat' first | exact HasL.nil | refine HasL.cons rfl ?_) (by repeat' first | exact List.Sublist.refl _ | exact List.nil_sublist _ | exact List.sublist_append_left _ _ | refine List.Sublist.cons_cons _ ?_ | refine List.Sublist.cons _ ?_)
               intro q hq
               rcases List.mem_append.1 hq with hq | hq
               · exact hq4 q hq
               · rw [List.mem_singleton.1 hq]
                 refine ⟨⟨?_, ?_⟩, ?_, ?_⟩ <;> simp only <;> omega)
            | exact Ps.round (j + 1, qs, z) ⟨hlt, by show qs.length ≤ j + 1 + 1; omega, hq2, hq3, hq4⟩ (by show ps.length - (j + 1) < ps.length - j; omega) ⟨rfl, trivial⟩ (by repeat' first | exact HasL.nil | refine HasL.cons rfl ?_) (by repeat' first | exact List.Sublist.refl _ | exact List.nil_sublist _ | exact List.sublist_append_left _ _ | refine List.Sublist.cons_cons _ ?_ | refine List.Sublist.cons _ ?_)
      · try replace hc := dc hc
        refine Ps.exit ?_
        refine Ps.thn_exit ?_
        refine Ps.rnd_exit ?_
        refine Ps.blk_here ?_
        refine Ps.blk ?_
        refine Ps.thn ?_
        refine Ps.seq ?_
        refine Ps.region rfl ?_
        first | refine Rs.loadR (p := .agg [_, _, _, _, _, _, _, _]) rfl rfl rfl rfl ?_ | refine Rs.loadP (p := .agg [_, _, _, _, _, _, _, _]) 0 rfl rfl rfl rfl rfl ?_ | refine Rs.loadP (p := .agg [_, _, _, _, _, _, _, _]) 1 rfl rfl rfl rfl rfl ?_ | refine Rs.loadP (p := .agg [_, _, _, _, _, _, _, _]) 2 rfl rfl rfl rfl rfl ?_ | refine Rs.loadP (p := .agg [_, _, _, _, _, _, _, _]) 3 rfl rfl rfl rfl rfl ?_
        first | refine Rs.store0 (l' := [.agg [_, _, _, _, _, _, _, _]]) rfl rfl rfl (by first | rfl | exact storeB_ag rfl rfl rfl (by simp [scalars, sc_int, sc_str, sc_bool, sc_nil, sc_dsl, sc_own, sc_g, sc_f, *]) | exact storeB_fld rfl (by first | assumption | exact cl_g | exact cl_f) (by first | assumption | exact sc_g | exact sc_f) rfl) ?_ | refine Rs.store1 (l' := [.agg [_, _, _, _, _, _, _, _]]) rfl rfl rfl (by first | rfl | exact storeB_ag rfl rfl rfl (by simp [scalars, sc_int, sc_str, sc_bool, sc_nil, sc_dsl, sc_own, sc_g, sc_f, *]) | exact storeB_fld rfl (by first | assumption | exact cl_g | exact cl_f) (by first | assumption | exact sc_g | exact sc_f) rfl) ?_ | refine Rs.store2 (l' := [.agg [_, _, _, _, _, _, _, _]]) rfl rfl rfl (by first | rfl | exact storeB_ag rfl rfl rfl (by simp [scalars, sc_int, sc_str, sc_bool, sc_nil, sc_dsl, sc_own, sc_g, sc_f, *]) | exact storeB_fld rfl (by first | assumption | exact cl_g | exact cl_f) (by first | assumption | exact sc_g | exact sc_f) rfl) ?_ | refine Rs.store3 (l' := [.agg [_, _, _, _, _, _, _, _]]) rfl rfl rfl (by first | rfl | exact storeB_ag rfl rfl rfl (by simp [scalars, sc_int, sc_str, sc_bool, sc_nil, sc_dsl, sc_own, sc_g, sc_f, *]) | exact storeB_fld rfl (by first | assumption | exact cl_g | exact cl_f) (by first | assumption | exact sc_g | exact sc_f) rfl) ?_
        refine Rs.nil ?_
        refine Ps.thn ?_
        refine Ps.ret ?_
        -- leaf 4 (ret)
        first
          | (refine Ps.finX (l := [_]) rfl (by (first | refine ResR.cell (p := .agg [_, _, _, _, _, _, _, _]) 0 rfl rfl rfl ?_ | refine ResR.cell (p := .agg [_, _, _, _, _, _, _, _]) 1 rfl rfl rfl ?_ | refine ResR.cell (p := .agg [_, _, _, _, _, _, _, _]) 2 rfl rfl rfl ?_ | refine ResR.cell (p := .agg [_, _, _, _, _, _, _, _]) 3 rfl rfl rfl ?_); exact ResR.nil) (fun H hH => ?_)
             obtain ⟨q, hq, hd⟩ := Dp.f (s := 2) (a := z) (l := qs.map partP) hH (fun x hx => by simp [hx]) (by intro p hp; obtain ⟨x, _, rfl⟩ := List.mem_map.1 hp; rfl) (by simp; omega)
             refine ⟨_, (Dp.agg (DpL.cons (Dp.plain 95000 rfl rfl) (DpL.cons (Dp.plain 95000 rfl rfl) (DpL.cons (Dp.plain 95000 rfl rfl) (DpL.cons (Dp.plain 95000 rfl rfl) (DpL.cons hd (DpL.cons (Dp.plain 95000 rfl rfl) (DpL.cons (Dp.plain 95000 rfl rfl) (DpL.cons (Dp.plain 95000 rfl rfl) DpL.nil)))))))) (m := 96000) rfl).top rfl, 1 + a, 0, ⟨#[]⟩, qs, q, [], nilP, 0, ⟨by omega, by omega, by omega, hq3, hq4, fun _ => hq2⟩, hq, nil_is, rfl⟩)
          | (refine Ps.finP (l := [_]) rfl (by (first | refine ResR.cell (p := .agg [_, _, _, _, _, _, _, _]) 0 rfl rfl rfl ?_ | refine ResR.cell (p := .agg [_, _, _, _, _, _, _, _]) 1 rfl rfl rfl ?_ | refine ResR.cell (p := .agg [_, _, _, _, _, _, _, _]) 2 rfl rfl rfl ?_ | refine ResR.cell (p := .agg [_, _, _, _, _, _, _, _]) 3 rfl rfl rfl ?_); exact ResR.nil) (by simp [plainP, plainC, List.all, hr8.all]; exact ⟨rfl, rfl, rfl, rfl, rfl, rfl⟩) rfl ⟨0, 0, _, [], nilP, s8, r8, e8, ⟨by omega, by omega, by omega, by simp, by simp, by omega⟩, nil_is, hr8, rfl⟩)
          | (refine Ps.finP (l := [_]) rfl (by (first | refine ResR.cell (p := .agg [_, _, _, _, _, _, _, _]) 0 rfl rfl rfl ?_ | refine ResR.cell (p := .agg [_, _, _, _, _, _, _, _]) 1 rfl rfl rfl ?_ | refine ResR.cell (p := .agg [_, _, _, _, _, _, _, _]) 2 rfl rfl rfl ?_ | refine ResR.cell (p := .agg [_, _, _, _, _, _, _, _]) 3 rfl rfl rfl ?_); exact ResR.nil) rfl rfl ⟨_, _, _, [], nilP, [], nilP, _, ⟨by omega, by omega, by omega, by simp, by simp, by omega⟩, nil_is, nil_is, rfl⟩)
          | (trace_state; sorry)
    · try replace hc := dc hc
      refine Ps.seq ?_
      refine Ps.region rfl ?_
      refine Rs.binB rfl rfl rfl rfl rfl rfl ?_
      refine Rs.assign rfl rfl ?_
      refine Rs.nil ?_
      refine Ps.thn ?_
      refine Ps.if rfl (fun hc => ?_) (fun hc => ?_)
      · try replace hc := dc hc
        refine Ps.region rfl ?_
        first | refine Rs.fieldAddrD rfl rfl rfl rfl ?_ | refine Rs.fieldAddrP rfl rfl rfl rfl ?_
        refine Rs.loadD rfl rfl rfl rfl ?_
        first | refine Rs.fieldAddrD rfl rfl rfl rfl ?_ | refine Rs.fieldAddrP rfl rfl rfl rfl ?_
        refine Rs.loadD rfl rfl rfl rfl ?_
        refine Rs.call0 rfl rfl rfl (make08_ok _ _ _ (by assumption) (by omega) (by omega) (by assumption)) (fun p69 hp => ?_)
        obtain ⟨s8, e8, r8, hM8, hr8, rfl⟩ := hp
        have hs8 := hr8.scalar
        first | refine Rs.fieldAddrD (off' := 1) rfl rfl rfl rfl ?_ | refine Rs.fieldAddrP (off' := 1) rfl rfl rfl rfl ?_
        first | refine Rs.store0 (l' := [.agg [_, _, _, _, _, _, _, _]]) rfl rfl rfl (by first | rfl | exact storeB_ag rfl rfl rfl (by simp [scalars, sc_int, sc_str, sc_bool, sc_nil, sc_dsl, sc_own, sc_g, sc_f, *]) | exact storeB_fld rfl (by first | assumption | exact cl_g | exact cl_f) (by first | assumption | exact sc_g | exact sc_f) rfl) ?_ | refine Rs.store1 (l' := [.agg [_, _, _, _, _, _, _, _]]) rfl rfl rfl (by first | rfl | exact storeB_ag rfl rfl rfl (by simp [scalars, sc_int, sc_str, sc_bool, sc_nil, sc_dsl, sc_own, sc_g, sc_f, *]) | exact storeB_fld rfl (by first | assumption | exact cl_g | exact cl_f) (by first | assumption | exact sc_g | exact sc_f) rfl) ?_ | refine Rs.store2 (l' := [.agg [_, _, _, _, _, _, _, _]]) rfl rfl rfl (by first | rfl | exact storeB_ag rfl rfl rfl (by simp [scalars, sc_int, sc_str, sc_bool, sc_nil, sc_dsl, sc_own, sc_g, sc_f, *]) | exact storeB_fld rfl (by first | assumption | exact cl_g | exact cl_f) (by first | assumption | exact sc_g | exact sc_f) rfl) ?_ | refine Rs.store3 (l' := [.agg [_, _, _, _, _, _, _, _]]) rfl rfl rfl (by first | rfl | exact storeB_ag rfl rfl rfl (by simp [scalars, sc_int, sc_str, sc_bool, sc_nil, sc_dsl, sc_own, sc_g, sc_f, *]) | exact storeB_fld rfl (by first | assumption | exact cl_g | exact cl_f) (by first | assumption | exact sc_g | exact sc_f) rfl) ?_
        first | refine Rs.fieldAddrD (off' := 5) rfl rfl rfl rfl ?_ | refine Rs.fieldAddrP (off' := 5) rfl rfl rfl rfl ?_
        refine Rs.store0 (l' := [.agg [i64P (k % 8), u32P 0, u32P 0, strP ⟨#[]⟩, nilP, r8, i32P e8, i64P 0]]) rfl rfl rfl ((storeB_flds (n := 2) rfl rfl rfl (by simp [scalars, sc_int, hs8])).trans rfl) ?_
        refine Rs.nil ?_
        refine Ps.blk ?_
        refine Ps.thn ?_
        refine Ps.seq ?_
        refine Ps.region rfl ?_
        first | refine Rs.loadR (p := .agg [_, _, _, _, _, _, _, _]) rfl rfl rfl rfl ?_ | refine Rs.loadP (p := .agg [_, _, _, _, _, _, _, _]) 0 rfl rfl rfl rfl rfl ?_ | refine Rs.loadP (p := .agg [_, _, _, _, _, _, _, _]) 1 rfl rfl rfl rfl rfl ?_ | refine Rs.loadP (p := .agg [_, _, _, _, _, _, _, _]) 2 rfl rfl rfl rfl rfl ?_ | refine Rs.loadP (p := .agg [_, _, _, _, _, _, _, _]) 3 rfl rfl rfl rfl rfl ?_
        first | refine Rs.store0 (l' := [.agg [_, _, _, _, _, _, _, _]]) rfl rfl rfl (by first | rfl | exact storeB_ag rfl rfl rfl (by simp [scalars, sc_int, sc_str, sc_bool, sc_nil, sc_dsl, sc_own, sc_g, sc_f, *]) | exact storeB_fld rfl (by first | assumption | exact cl_g | exact cl_f) (by first | assumption | exact sc_g | exact sc_f) rfl) ?_ | refine Rs.store1 (l' := [.agg [_, _, _, _, _, _, _, _]]) rfl rfl rfl (by first | rfl | exact storeB_ag rfl rfl rfl (by simp [scalars, sc_int, sc_str, sc_bool, sc_nil, sc_dsl, sc_own, sc_g, sc_f, *]) | exact storeB_fld rfl (by first | assumption | exact cl_g | exact cl_f) (by first | assumption | exact sc_g | exact sc_f) rfl) ?_ | refine Rs.store2 (l' := [.agg [_, _, _, _, _, _, _, _]]) rfl rfl rfl (by first | rfl | exact storeB_ag rfl rfl rfl (by simp [scalars, sc_int, sc_str, sc_bool, sc_nil, sc_dsl, sc_own, sc_g, sc_f, *]) | exact storeB_fld rfl (by first | assumption | exact cl_g | exact cl_f) (by first | assumption | exact sc_g | exact sc_f) rfl) ?_ | refine Rs.store3 (l' := [.agg [_, _, _, _, _, _, _, _]]) rfl rfl rfl (by first | rfl | exact storeB_ag rfl rfl rfl (by simp [scalars, sc_int, sc_str, sc_bool, sc_nil, sc_dsl, sc_own, sc_g, sc_f, *]) | exact storeB_fld rfl (by first | assumption | exact cl_g | exact cl_f) (by first | assumption | exact sc_g | exact sc_f) rfl) ?_
        refine Rs.nil ?_
        refine Ps.thn ?_
        refine Ps.ret ?_
        -- leaf 5 (ret)
        first
          | (refine Ps.finX (l := [_]) rfl (by (first | refine ResR.cell (p := .agg [_, _, _, _, _, _, _, _]) 0 rfl rfl rfl ?_ | refine ResR.cell (p := .agg [_, _, _, _, _, _, _, _]) 1 rfl rfl rfl ?_ | refine ResR.cell (p := .agg [_, _, _, _, _, _, _, _]) 2 rfl rfl rfl ?_ | refine ResR.cell (p := .agg [_, _, _, _, _, _, _, _]) 3 rfl rfl rfl ?_); exact ResR.nil) (fun H hH => ?_)
             obtain ⟨q, hq, hd⟩ := Dp.f (s := 2) (a := z) (l := qs.map partP) hH (fun x hx => by simp [hx]) (by intro p hp; obtain ⟨x, _, rfl⟩ := List.mem_map.1 hp; rfl) (by simp; omega)
             refine ⟨_, (Dp.agg (DpL.cons (Dp.plain 95000 rfl rfl) (DpL.cons (Dp.plain 95000 rfl rfl) (DpL.cons (Dp.plain 95000 rfl rfl) (DpL.cons (Dp.plain 95000 rfl rfl) (DpL.cons hd (DpL.cons (Dp.plain 95000 rfl rfl) (DpL.cons (Dp.plain 95000 rfl rfl) (DpL.cons (Dp.plain 95000 rfl rfl) DpL.nil)))))))) (m := 96000) rfl).top rfl, 1 + a, 0, ⟨#[]⟩, qs, q, [], nilP, 0, ⟨by omega, by omega, by omega, hq3, hq4, fun _ => hq2⟩, hq, nil_is, rfl⟩)
          | (refine Ps.finP (l := [_]) rfl (by (first | refine ResR.cell (p := .agg [_, _, _, _, _, _, _, _]) 0 rfl rfl rfl ?_ | refine ResR.cell (p := .agg [_, _, _, _, _, _, _, _]) 1 rfl rfl rfl ?_ | refine ResR.cell (p := .agg [_, _, _, _, _, _, _, _]) 2 rfl rfl rfl ?_ | refine ResR.cell (p := .agg [_, _, _, _, _, _, _, _]) 3 rfl rfl rfl ?_); exact ResR.nil) (by simp [plainP, plainC, List.all, hr8.all]; exact ⟨rfl, rfl, rfl, rfl, rfl, rfl⟩) rfl ⟨0, 0, _, [], nilP, s8, r8, e8, ⟨by omega, by omega, by omega, by simp, by simp, by omega⟩, nil_is, hr8, rfl⟩)
          | (refine Ps.finP (l := [_]) rfl (by (first | refine ResR.cell (p := .agg [_, _, _, _, _, _, _, _]) 0 rfl rfl rfl ?_ | refine ResR.cell (p := .agg [_, _, _, _, _, _, _, _]) 1 rfl rfl rfl ?_ | refine ResR.cell (p := .agg [_, _, _, _, _, _, _, _]) 2 rfl rfl rfl ?_ | refine ResR.cell (p := .agg [_, _, _, _, _, _, _, _]) 3 rfl rfl rfl ?_); exact ResR.nil) rfl rfl ⟨_, _, _, [], nilP, [], nilP, _, ⟨by omega, by omega, by omega, by simp, by simp, by omega⟩, nil_is, nil_is, rfl⟩)
          | (trace_state; sorry)
      · try replace hc := dc hc
        refine Ps.seq ?_
        refine Ps.region rfl ?_
        refine Rs.binB rfl rfl rfl rfl rfl rfl ?_
        refine Rs.assign rfl rfl ?_
        refine Rs.nil ?_
        refine Ps.thn ?_
        refine Ps.if rfl (fun hc => ?_) (fun hc => ?_)
        · try replace hc := dc hc
          refine Ps.region rfl ?_
          first | refine Rs.fieldAddrD rfl rfl rfl rfl ?_ | refine Rs.fieldAddrP rfl rfl rfl rfl ?_
          refine Rs.loadD rfl rfl rfl rfl ?_
          refine Rs.convI rfl rfl ⟨_, rfl⟩ rfl rfl (by first | exact W_u32 (by omega) (by omega) | rfl) ?_
          first | refine Rs.fieldAddrD (off' := 2) rfl rfl rfl rfl ?_ | refine Rs.fieldAddrP (off' := 2) rfl rfl rfl rfl ?_
          first | refine Rs.store0 (l' := [.agg [_, _, _, _, _, _, _, _]]) rfl rfl rfl (by first | rfl | exact storeB_ag rfl rfl rfl (by simp [scalars, sc_int, sc_str, sc_bool, sc_nil, sc_dsl, sc_own, sc_g, sc_f, *]) | exact storeB_fld rfl (by first | assumption | exact cl_g | exact cl_f) (by first | assumption | exact sc_g | exact sc_f) rfl) ?_ | refine Rs.store1 (l' := [.agg [_, _, _, _, _, _, _, _]]) rfl rfl rfl (by first | rfl | exact storeB_ag rfl rfl rfl (by simp [scalars, sc_int, sc_str, sc_bool, sc_nil, sc_dsl, sc_own, sc_g, sc_f, *]) | exact storeB_fld rfl (by first | assumption | exact cl_g | exact cl_f) (by first | assumption | exact sc_g | exact sc_f) rfl) ?_ | refine Rs.store2 (l' := [.agg [_, _, _, _, _, _, _, _]]) rfl rfl rfl (by first | rfl | exact storeB_ag rfl rfl rfl (by simp [scalars, sc_int, sc_str, sc_bool, sc_nil, sc_dsl, sc_own, sc_g, sc_f, *]) | exact storeB_fld rfl (by first | assumption | exact cl_g | exact cl_f) (by first | assumption | exact sc_g | exact sc_f) rfl) ?_ | refine Rs.store3 (l' := [.agg [_, _, _, _, _, _, _, _]]) rfl rfl rfl (by first | rfl | exact storeB_ag rfl rfl rfl (by simp [scalars, sc_int, sc_str, sc_bool, sc_nil, sc_dsl, sc_own, sc_g, sc_f, *]) | exact storeB_fld rfl (by first | assumption | exact cl_g | exact cl_f) (by first | assumption | exact sc_g | exact sc_f) rfl) ?_
          refine Rs.nil ?_
          refine Ps.blk ?_
          refine Ps.thn ?_
          refine Ps.seq ?_
          refine Ps.region rfl ?_
          first | refine Rs.loadR (p := .agg [_, _, _, _, _, _, _, _]) rfl rfl rfl rfl ?_ | refine Rs.loadP (p := .agg [_, _, _, _, _, _, _, _]) 0 rfl rfl rfl rfl rfl ?_ | refine Rs.loadP (p := .agg [_, _, _, _, _, _, _, _]) 1 rfl rfl rfl rfl rfl ?_ | refine Rs.loadP (p := .agg [_, _, _, _, _, _, _, _]) 2 rfl rfl rfl rfl rfl ?_ | refine Rs.loadP (p := .agg [_, _, _, _, _, _, _, _]) 3 rfl rfl rfl rfl rfl ?_
          first | refine Rs.store0 (l' := [.agg [_, _, _, _, _, _, _, _]]) rfl rfl rfl (by first | rfl | exact storeB_ag rfl rfl rfl (by simp [scalars, sc_int, sc_str, sc_bool, sc_nil, sc_dsl, sc_own, sc_g, sc_f, *]) | exact storeB_fld rfl (by first | assumption | exact cl_g | exact cl_f) (by first | assumption | exact sc_g | exact sc_f) rfl) ?_ | refine Rs.store1 (l' := [.agg [_, _, _, _, _, _, _, _]]) rfl rfl rfl (by first | rfl | exact storeB_ag rfl rfl rfl (by simp [scalars, sc_int, sc_str, sc_bool, sc_nil, sc_dsl, sc_own, sc_g, sc_f, *]) | exact storeB_fld rfl (by first | assumption | exact cl_g | exact cl_f) (by first | assumption | exact sc_g | exact sc_f) rfl) ?_ | refine Rs.store2 (l' := [.agg [_, _, _, _, _, _, _, _]]) rfl rfl rfl (by first | rfl | exact storeB_ag rfl rfl rfl (by simp [scalars, sc_int, sc_str, sc_bool, sc_nil, sc_dsl, sc_own, sc_g, sc_f, *]) | exact storeB_fld rfl (by first | assumption | exact cl_g | exact cl_f) (by first | assumption | exact sc_g | exact sc_f) rfl) ?_ | refine Rs.store3 (l' := [.agg [_, _, _, _, _, _, _, _]]) rfl rfl rfl (by first | rfl | exact storeB_ag rfl rfl rfl (by simp [scalars, sc_int, sc_str, sc_bool, sc_nil, sc_dsl, sc_own, sc_g, sc_f, *]) | exact storeB_fld rfl (by first | assumption | exact cl_g | exact cl_f) (by first | assumption | exact sc_g | exact sc_f) rfl) ?_
          refine Rs.nil ?_
          refine Ps.thn ?_
          refine Ps.ret ?_
          -- leaf 6 (ret)
          first
            | (refine Ps.finX (l := [_]) rfl (by (first | refine ResR.cell (p := .agg [_, _, _, _, _, _, _, _]) 0 rfl rfl rfl ?_ | refine ResR.cell (p := .agg [_, _, _, _, _, _, _, _]) 1 rfl rfl rfl ?_ | refine ResR.cell (p := .agg [_, _, _, _, _, _, _, _]) 2 rfl rfl rfl ?_ | refine ResR.cell (p := .agg [_, _, _, _, _, _, _, _]) 3 rfl rfl rfl ?_); exact ResR.nil) (fun H hH => ?_)
               obtain ⟨q, hq, hd⟩ := Dp.f (s := 2) (a := z) (l := qs.map partP) hH (fun x hx => by simp [hx]) (by intro p hp; obtain ⟨x, _, rfl⟩ := List.mem_map.1 hp; rfl) (by simp; omega)
               refine ⟨_, (Dp.agg (DpL.cons (Dp.plain 95000 rfl rfl) (DpL.cons (Dp.plain 95000 rfl rfl) (DpL.cons (Dp.plain 95000 rfl rfl) (DpL.cons (Dp.plain 95000 rfl rfl) (DpL.cons hd (DpL.cons (Dp.plain 95000 rfl rfl) (DpL.cons (Dp.plain 95000 rfl rfl) (DpL.cons (Dp.plain 95000 rfl rfl) DpL.nil)))))))) (m := 96000) rfl).top rfl, 1 + a, 0, ⟨#[]⟩, qs, q, [], nilP, 0, ⟨by omega, by omega, by omega, hq3, hq4, fun _ => hq2⟩, hq, nil_is, rfl⟩)
            | (refine Ps.finP (l := [_]) rfl (by (first | refine ResR.cell (p := .agg [_, _, _, _, _, _, _, _]) 0 rfl rfl rfl ?_ | refine ResR.cell (p := .agg [_, _, _, _, _, _, _, _]) 1 rfl rfl rfl ?_ | refine ResR.cell (p := .agg [_, _, _, _, _, _, _, _]) 2 rfl rfl rfl ?_ | refine ResR.cell (p := .agg [_, _, _, _, _, _, _, _]) 3 rfl rfl rfl ?_); exact ResR.nil) (by simp [plainP, plainC, List.all, hr8.all]; exact ⟨rfl, rfl, rfl, rfl, rfl, rfl⟩) rfl ⟨0, 0, _, [], nilP, s8, r8, e8, ⟨by omega, by omega, by omega, by simp, by simp, by omega⟩, nil_is, hr8, rfl⟩)
            | (refine Ps.finP (l := [_]) rfl (by (first | refine ResR.cell (p := .agg [_, _, _, _, _, _, _, _]) 0 rfl rfl rfl ?_ | refine ResR.cell (p := .agg [_, _, _, _, _, _, _, _]) 1 rfl rfl rfl ?_ | refine ResR.cell (p := .agg [_, _, _, _, _, _, _, _]) 2 rfl rfl rfl ?_ | refine ResR.cell (p := .agg [_, _, _, _, _, _, _, _]) 3 rfl rfl rfl ?_); exact ResR.nil) rfl rfl ⟨_, _, _, [], nilP, [], nilP, _, ⟨by omega, by omega, by omega, by simp, by simp, by omega⟩, nil_is, nil_is, rfl⟩)
            | (trace_state; sorry)
        · try replace hc := dc hc
          refine Ps.region rfl ?_
          first | refine Rs.fieldAddrD rfl rfl rfl rfl ?_ | refine Rs.fieldAddrP rfl rfl rfl rfl ?_
          refine Rs.loadD rfl rfl rfl rfl ?_
          refine Rs.convI rfl rfl ⟨_, rfl⟩ rfl rfl (by first | exact W_u32 (by omega) (by omega) | rfl) ?_
          refine Rs.add rfl rfl rfl (by first | exact W_u32 (by omega) (by omega) | rfl) ?_
          first | refine Rs.fieldAddrD (off' := 2) rfl rfl rfl rfl ?_ | refine Rs.fieldAddrP (off' := 2) rfl rfl rfl rfl ?_
          first | refine Rs.store0 (l' := [.agg [_, _, _, _, _, _, _, _]]) rfl rfl rfl (by first | rfl | exact storeB_ag rfl rfl rfl (by simp [scalars, sc_int, sc_str, sc_bool, sc_nil, sc_dsl, sc_own, sc_g, sc_f, *]) | exact storeB_fld rfl (by first | assumption | exact cl_g | exact cl_f) (by first | assumption | exact sc_g | exact sc_f) rfl) ?_ | refine Rs.store1 (l' := [.agg [_, _, _, _, _, _, _, _]]) rfl rfl rfl (by first | rfl | exact storeB_ag rfl rfl rfl (by simp [scalars, sc_int, sc_str, sc_bool, sc_nil, sc_dsl, sc_own, sc_g, sc_f, *]) | exact storeB_fld rfl (by first | assumption | exact cl_g | exact cl_f) (by first | assumption | exact sc_g | exact sc_f) rfl) ?_ | refine Rs.store2 (l' := [.agg [_, _, _, _, _, _, _, _]]) rfl rfl rfl (by first | rfl | exact storeB_ag rfl rfl rfl (by simp [scalars, sc_int, sc_str, sc_bool, sc_nil, sc_dsl, sc_own, sc_g, sc_f, *]) | exact storeB_fld rfl (by first | assumption | exact cl_g | exact cl_f) (by first | assumption | exact sc_g | exact sc_f) rfl) ?_ | refine Rs.store3 (l' := [.agg [_, _, _, _, _, _, _, _]]) rfl rfl rfl (by first | rfl | exact storeB_ag rfl rfl rfl (by simp [scalars, sc_int, sc_str, sc_bool, sc_nil, sc_dsl, sc_own, sc_g, sc_f, *]) | exact storeB_fld rfl (by first | assumption | exact cl_g | exact cl_f) (by first | assumption | exact sc_g | exact sc_f) rfl) ?_
          refine Rs.nil ?_
          refine Ps.blk ?_
          refine Ps.thn ?_
          refine Ps.seq ?_
          refine Ps.region rfl ?_
          first | refine Rs.loadR (p := .agg [_, _, _, _, _, _, _, _]) rfl rfl rfl rfl ?_ | refine Rs.loadP (p := .agg [_, _, _, _, _, _, _, _]) 0 rfl rfl rfl rfl rfl ?_ | refine Rs.loadP (p := .agg [_, _, _, _, _, _, _, _]) 1 rfl rfl rfl rfl rfl ?_ | refine Rs.loadP (p := .agg [_, _, _, _, _, _, _, _]) 2 rfl rfl rfl rfl rfl ?_ | refine Rs.loadP (p := .agg [_, _, _, _, _, _, _, _]) 3 rfl rfl rfl rfl rfl ?_
          first | refine Rs.store0 (l' := [.agg [_, _, _, _, _, _, _, _]]) rfl rfl rfl (by first | rfl | exact storeB_ag rfl rfl rfl (by simp [scalars, sc_int, sc_str, sc_bool, sc_nil, sc_dsl, sc_own, sc_g, sc_f, *]) | exact storeB_fld rfl (by first | assumption | exact cl_g | exact cl_f) (by first | assumption | exact sc_g | exact sc_f) rfl) ?_ | refine Rs.store1 (l' := [.agg [_, _, _, _, _, _, _, _]]) rfl rfl rfl (by first | rfl | exact storeB_ag rfl rfl rfl (by simp [scalars, sc_int, sc_str, sc_bool, sc_nil, sc_dsl, sc_own, sc_g, sc_f, *]) | exact storeB_fld rfl (by first | assumption | exact cl_g | exact cl_f) (by first | assumption | exact sc_g | exact sc_f) rfl) ?_ | refine Rs.store2 (l' := [.agg [_, _, _, _, _, _, _, _]]) rfl rfl rfl (by first | rfl | exact storeB_ag rfl rfl rfl (by simp [scalars, sc_int, sc_str, sc_bool, sc_nil, sc_dsl, sc_own, sc_g, sc_f, *]) | exact storeB_fld rfl (by first | assumption | exact cl_g | exact cl_f) (by first | assumption | exact sc_g | exact sc_f) rfl) ?_ | refine Rs.store3 (l' := [.agg [_, _, _, _, _, _, _, _]]) rfl rfl rfl (by first | rfl | exact storeB_ag rfl rfl rfl (by simp [scalars, sc_int, sc_str, sc_bool, sc_nil, sc_dsl, sc_own, sc_g, sc_f, *]) | exact storeB_fld rfl (by first | assumption | exact cl_g | exact cl_f) (by first | assumption | exact sc_g | exact sc_f) rfl) ?_
          refine Rs.nil ?_
          refine Ps.thn ?_
          refine Ps.ret ?_
          -- leaf 7 (ret)
          first
            | (refine Ps.finX (l := [_]) rfl (by (first | refine ResR.cell (p := .agg [_, _, _, _, _, _, _, _]) 0 rfl rfl rfl ?_ | refine ResR.cell (p := .agg [_, _, _, _, _, _, _, _]) 1 rfl rfl rfl ?_ | refine ResR.cell (p := .agg [_, _, _, _, _, _, _, _]) 2 rfl rfl rfl ?_ | refine ResR.cell (p := .agg [_, _, _, _, _, _, _, _]) 3 rfl rfl rfl ?_); exact ResR.nil) (fun H hH => ?_)
               obtain ⟨q, hq, hd⟩ := Dp.f (s := 2) (a := z) (l := qs.map partP) hH (fun x hx => by simp [hx]) (by intro p hp; obtain ⟨x, _, rfl⟩ := List.mem_map.1 hp; rfl) (by simp; omega)
               refine ⟨_, (Dp.agg (DpL.cons (Dp.plain 95000 rfl rfl) (DpL.cons (Dp.plain 95000 rfl rfl) (DpL.cons (Dp.plain 95000 rfl rfl) (DpL.cons (Dp.plain 95000 rfl rfl) (DpL.cons hd (DpL.cons (Dp.plain 95000 rfl rfl) (DpL.cons (Dp.plain 95000 rfl rfl) (DpL.cons (Dp.plain 95000 rfl rfl) DpL.nil)))))))) (m := 96000) rfl).top rfl, 1 + a, 0, ⟨#[]⟩, qs, q, [], nilP, 0, ⟨by omega, by omega, by omega, hq3, hq4, fun _ => hq2⟩, hq, nil_is, rfl⟩)
            | (refine Ps.finP (l := [_]) rfl (by (first | refine ResR.cell (p := .agg [_, _, _, _, _, _, _, _]) 0 rfl rfl rfl ?_ | refine ResR.cell (p := .agg [_, _, _, _, _, _, _, _]) 1 rfl rfl rfl ?_ | refine ResR.cell (p := .agg [_, _, _, _, _, _, _, _]) 2 rfl rfl rfl ?_ | refine ResR.cell (p := .agg [_, _, _, _, _, _, _, _]) 3 rfl rfl rfl ?_); exact ResR.nil) (by simp [plainP, plainC, List.all, hr8.all]; exact ⟨rfl, rfl, rfl, rfl, rfl, rfl⟩) rfl ⟨0, 0, _, [], nilP, s8, r8, e8, ⟨by omega, by omega, by omega, by simp, by simp, by omega⟩, nil_is, hr8, rfl⟩)
            | (refine Ps.finP (l := [_]) rfl (by (first | refine ResR.cell (p := .agg [_, _, _, _, _, _, _, _]) 0 rfl rfl rfl ?_ | refine ResR.cell (p := .agg [_, _, _, _, _, _, _, _]) 1 rfl rfl rfl ?_ | refine ResR.cell (p := .agg [_, _, _, _, _, _, _, _]) 2 rfl rfl rfl ?_ | refine ResR.cell (p := .agg [_, _, _, _, _, _, _, _]) 3 rfl rfl rfl ?_); exact ResR.nil) rfl rfl ⟨_, _, _, [], nilP, [], nilP, _, ⟨by omega, by omega, by omega, by simp, by simp, by omega⟩, nil_is, nil_is, rfl⟩)
            | (trace_state; sorry)
end Go.Proofs.YthabndifdgafbaaGreatDoor.RV.T
end
section
open Go Go.Proofs.YthabndifdgafbaaGreatDoor.RV Go.Proofs.YthabndifdgafbaaGreatDoor.XA.Awk Go.Proofs.YthabndifdgafbaaGreatDoor.RV.ChartMath Go.Proofs
namespace Go.Proofs.YthabndifdgafbaaGreatDoor.RV.T
set_option maxRecDepth 100000
set_option linter.unusedVariables false
set_option linter.unusedSimpArgs false
variable {spc : Sp}
end Go.Proofs.YthabndifdgafbaaGreatDoor.RV.T
end
section
open Go Go.Proofs.YthabndifdgafbaaGreatDoor.RV Go.Proofs.YthabndifdgafbaaGreatDoor.XA.Awk Go.Proofs.YthabndifdgafbaaGreatDoor.RV.ChartMath Go.Proofs
namespace Go.Proofs.YthabndifdgafbaaGreatDoor.RV.T
set_option maxRecDepth 100000
set_option linter.unusedVariables false
set_option linter.unusedSimpArgs false
variable {spc : Sp}
structure RO where
  k : Int
  a : Int
  b : Int
  n : Int
  ps : List (Int × Int)
  first : Int
  long : List Int
def roP (x : RO) : PV := .agg [u8P x.k, u8P x.a, u8P x.b, u8P x.n, .dsl 2 (x.ps.map rpP) none, i16P x.first, .dsl 1 (x.long.map u8P) none]
structure RoOk (x : RO) : Prop where
  k : 0 ≤ x.k ∧ x.k ≤ 255
  a : 0 ≤ x.a ∧ x.a ≤ 255
  b : 0 ≤ x.b ∧ x.b ≤ 255
  n : 0 ≤ x.n ∧ x.n ≤ 255
  psl : x.ps.length < 9223372036854775807
  ps : ∀ q ∈ x.ps, (0 ≤ q.1 ∧ q.1 ≤ 255) ∧ 0 ≤ q.2 ∧ q.2 ≤ 4294967295
  first : -32768 ≤ x.first ∧ x.first ≤ 32767
  ll : x.long.length < 9223372036854775807
  long : ∀ z ∈ x.long, 0 ≤ z ∧ z ≤ 255
end Go.Proofs.YthabndifdgafbaaGreatDoor.RV.T
end
section
namespace Go.Proofs.YthabndifdgafbaaGreatDoor
open Go Go.ChangeShapes Go.WideShapes Go.ChangeAt Go.RowKit Go.Proofs.YthabndifdgafbaaGreatDoor.RV Go.Proofs.YthabndifdgafbaaGreatDoor.RV.T Go.Proofs.YthabndifdgafbaaGreatDoor.XA.Awk
set_option linter.unusedVariables false
theorem laidOut : laidOutB Tryz.prog = true := by kernel_rfl
abbrev is65 : PV → Prop := fun p => ∃ x, p = rpP x ∧ (fun q => (0 ≤ q.1 ∧ q.1 ≤ 255) ∧ 0 ≤ q.2 ∧ q.2 ≤ 4294967295) x
theorem o65 : Opns Tryz.prog 65 is65 := by
  refine Opns.mono (op_struct (Ds := [IsI .u8, IsI .u32]) Tryz.underlying65 ⟨by kernel_rfl, op_int Tryz.underlying5, by kernel_rfl, op_int Tryz.underlying31, trivial⟩ (by kernel_rfl)) ?_
  rintro p ⟨ps, h, rfl⟩
  obtain ⟨_, ps1, rfl, h1, h⟩ := allD_cons h
  obtain ⟨_, ps2, rfl, h2, h⟩ := allD_cons h
  obtain rfl := allD_nil h
  clear h
  obtain ⟨n1, rfl, w1⟩ := h1
  obtain ⟨n2, rfl, w2⟩ := h2
  exact ⟨(n1, n2), rfl, wf_rng w1 rfl rfl, wf_rng w2 rfl rfl⟩
abbrev is29 : PV → Prop := fun p => ∃ x, p = roP x ∧ RoOk x
theorem o29 : Opns Tryz.prog 29 is29 := by
  refine Opns.mono (op_struct (Ds := [IsI .u8, IsI .u8, IsI .u8, IsI .u8, IsL 2 (is65), IsI .i16, IsL 1 (IsI .u8)]) Tryz.underlying29 ⟨by kernel_rfl, op_int Tryz.underlying5, by kernel_rfl, op_int Tryz.underlying5, by kernel_rfl, op_int Tryz.underlying5, by kernel_rfl, op_int Tryz.underlying5, by kernel_rfl, op_slice Tryz.underlying25 (o65) (by kernel_rfl) (by decide) (of_decide_eq_true (by kernel_rfl)), by kernel_rfl, op_int Tryz.underlying26, by kernel_rfl, op_slice Tryz.underlying27 (op_int Tryz.underlying5) (by kernel_rfl) (by decide) (of_decide_eq_true (by kernel_rfl)), trivial⟩ (by kernel_rfl)) ?_
  rintro p ⟨ps, h, rfl⟩
  obtain ⟨_, ps1, rfl, h1, h⟩ := allD_cons h
  obtain ⟨_, ps2, rfl, h2, h⟩ := allD_cons h
  obtain ⟨_, ps3, rfl, h3, h⟩ := allD_cons h
  obtain ⟨_, ps4, rfl, h4, h⟩ := allD_cons h
  obtain ⟨_, ps5, rfl, h5, h⟩ := allD_cons h
  obtain ⟨_, ps6, rfl, h6, h⟩ := allD_cons h
  obtain ⟨_, ps7, rfl, h7, h⟩ := allD_cons h
  obtain rfl := allD_nil h
  clear h
  obtain ⟨n1, rfl, w1⟩ := h1
  obtain ⟨n2, rfl, w2⟩ := h2
  obtain ⟨n3, rfl, w3⟩ := h3
  obtain ⟨n4, rfl, w4⟩ := h4
  obtain ⟨l5, rfl, b5, w5⟩ := IsL.enc h5
  obtain ⟨n6, rfl, w6⟩ := h6
  obtain ⟨l7, rfl, b7, w7⟩ := IsL.ints h7
  exact ⟨⟨n1, n2, n3, n4, l5, n6, l7⟩, rfl, ⟨wf_rng w1 rfl rfl, wf_rng w2 rfl rfl, wf_rng w3 rfl rfl, wf_rng w4 rfl rfl, Nat.lt_of_le_of_lt b5 (by decide), w5, wf_rng w6 rfl rfl, Nat.lt_of_le_of_lt b7 (by decide), fun y hy => wf_rng (w7 y hy) rfl rfl⟩⟩
end Go.Proofs.YthabndifdgafbaaGreatDoor
end
section
open Go Go.Proofs.YthabndifdgafbaaGreatDoor.RV Go.Proofs.YthabndifdgafbaaGreatDoor.XA.Awk Go.Proofs.YthabndifdgafbaaGreatDoor.RV.ChartMath Go.Proofs
namespace Go.Proofs.YthabndifdgafbaaGreatDoor.RV.T
set_option maxRecDepth 100000
set_option linter.unusedVariables false
set_option linter.unusedSimpArgs false
variable {spc : Sp}
theorem kindUnit_ok (k : Int) : Fn (cfg spc) 29 [i64P k] (· = boolP (k == 5 || k == 6)) := by
  refine Fn.go Tryz.func29 (L := [(0, _)]) rfl rfl rfl (by first | rfl | (simp [deepL, deepB, *]; done) | (simp [deepL, deepB, *]; rfl)) rfl ?_
  refine Ps.seq ?_
  refine Ps.region rfl ?_
  refine Rs.assign (p := .lit _) rfl rfl ?_
  refine Rs.nil ?_
  refine Ps.thn ?_
  refine Ps.seq ?_
  refine Ps.region rfl ?_
  refine Rs.move rfl rfl ?_
  refine Rs.binB rfl rfl rfl rfl rfl rfl ?_
  refine Rs.move rfl rfl ?_
  refine Rs.guard1 (w' := true) rfl rfl rfl (fun hg => ?_) (fun hg => ?_)
  · try replace hg := dc hg
    refine Rs.move rfl rfl ?_
    refine Rs.guardT rfl ?_
    refine Rs.binB rfl rfl rfl rfl rfl rfl ?_
    refine Rs.pickF (p := .lit _) rfl rfl rfl rfl ?_
    refine Rs.assign rfl rfl ?_
    refine Rs.nil ?_
    refine Ps.thn ?_
    refine Ps.ret ?_
    -- leaf 1 (ret)
    refine Ps.finP (l := [_]) rfl (by refine ResR.tmp rfl ?_; exact ResR.nil) (by first | rfl | simp [plainP, plainC, cp_lit, cp_dsl, *]) rfl ?_
    show boolP _ = boolP _
    congr 2
    simp_all
  · try replace hg := dc hg
    refine Rs.guardF1 rfl rfl rfl ?_
    refine Rs.pickT (p := .lit _) rfl rfl rfl rfl ?_
    refine Rs.assign rfl rfl ?_
    refine Rs.nil ?_
    refine Ps.thn ?_
    refine Ps.ret ?_
    -- leaf 2 (ret)
    refine Ps.finP (l := [_]) rfl (by refine ResR.tmp rfl ?_; exact ResR.nil) (by first | rfl | simp [plainP, plainC, cp_lit, cp_dsl, *]) rfl ?_
    show boolP _ = boolP _
    congr 2
    simp_all
def touchS (k f t : Int) (ps : List (Int × Int)) (u : Bool) (n : Int) : Bool :=
  if k == 7 || ((k == 5 || k == 6) != u) then false else if f == n || (t == n && k != 1 && k != 4) then true else k == 4 && ps.any fun q => q.1 == n
theorem touches_ok (k f t : Int) (nm : ByteArray) (ps : List (Int × Int)) (pp : PV) (ss : List Int) (cp : PV) (ce : Int) (hr : RawOk k f t ps) (hpp : IsSl 2 (ps.map partP) pp) (hcp : IsSl 1 (ss.map i32P) cp) (u : Bool) (n : Int) : Fn (cfg spc) 17 [.agg [i64P k, u32P f, u32P t, strP nm, pp, cp, i32P ce, i64P 0], boolP u, u32P n] (· = boolP (touchS k f t ps u n)) := by
  have hd1 := hpp.deep
  have hd2 := hcp.deep
  have hpl := hr.len
  refine Fn.go Tryz.func17 (L := [(0, _), (1, _), (2, _)]) rfl rfl rfl (by simp [deepL, deepB]; exact ⟨hd1, hd2⟩) rfl ?_
  refine Ps.seq ?_
  refine Ps.region rfl ?_
  refine Rs.box (l := [i64P k, u32P f, u32P t, strP nm, pp, cp, i32P ce, i64P 0]) rfl rfl rfl (by simp [deepB, deepL]; exact ⟨hd1, hd2⟩) rfl ?_
  refine Rs.assign (p := .lit _) rfl rfl ?_
  refine Rs.nil ?_
  refine Ps.thn ?_
  refine Ps.seq ?_
  refine Ps.seq ?_
  refine Ps.region rfl ?_
  first | refine Rs.fieldAddrD rfl rfl rfl rfl ?_ | refine Rs.fieldAddrP rfl rfl rfl rfl ?_
  refine Rs.loadD rfl rfl rfl rfl ?_
  refine Rs.binB rfl rfl rfl rfl rfl rfl ?_
  refine Rs.move rfl rfl ?_
  refine Rs.guard1 (w' := true) rfl rfl rfl (fun hg => ?_) (fun hg => ?_)
  · try replace hg := dc hg
    first | refine Rs.fieldAddrD rfl rfl rfl rfl ?_ | refine Rs.fieldAddrP rfl rfl rfl rfl ?_
    refine Rs.guardT rfl ?_
    refine Rs.loadD rfl rfl rfl rfl ?_
    refine Rs.guardT rfl ?_
    refine Rs.call0 rfl rfl rfl (kindUnit_ok _) (fun p15 hp => ?_)
    obtain rfl := hp
    refine Rs.guardT rfl ?_
    refine Rs.move rfl rfl ?_
    refine Rs.guardT rfl ?_
    refine Rs.binB rfl rfl rfl rfl rfl rfl ?_
    refine Rs.pickF (p := .lit _) rfl rfl rfl rfl ?_
    refine Rs.nil ?_
    refine Ps.thn ?_
    refine Ps.if rfl (fun hc => ?_) (fun hc => ?_)
    · try replace hc := dc hc
      refine Ps.seq ?_
      refine Ps.region rfl ?_
      refine Rs.assign (p := .lit _) rfl rfl ?_
      refine Rs.nil ?_
      refine Ps.thn ?_
      refine Ps.ret ?_
      refine Ps.thn_ret ?_
      -- leaf 1 (ret)
      refine Ps.finP (l := [_]) rfl (by refine ResR.tmp rfl ?_; exact ResR.nil) (by first | rfl | simp [plainP, plainC, cp_lit, cp_dsl, *]) rfl ?_
      show boolP _ = boolP _
      unfold touchS
      congr 2
      first
        | (simp_all; done)
        | (rw [hjc]
           simp_all
           done)
        | (rw [hjc, List.drop_eq_nil_of_le (by simp at hc; omega)]
           simp_all
           done)
        | (trace_state; sorry)
    · try replace hc := dc hc
      refine Ps.skip ?_
      refine Ps.thn ?_
      refine Ps.seq ?_
      refine Ps.seq ?_
      refine Ps.region rfl ?_
      first | refine Rs.fieldAddrD rfl rfl rfl rfl ?_ | refine Rs.fieldAddrP rfl rfl rfl rfl ?_
      refine Rs.loadD rfl rfl rfl rfl ?_
      refine Rs.move rfl rfl ?_
      refine Rs.binB rfl rfl rfl rfl rfl rfl ?_
      refine Rs.move rfl rfl ?_
      refine Rs.guard1 (w' := true) rfl rfl rfl (fun hg => ?_) (fun hg => ?_)
      · try replace hg := dc hg
        first | refine Rs.fieldAddrD rfl rfl rfl rfl ?_ | refine Rs.fieldAddrP rfl rfl rfl rfl ?_
        refine Rs.guardT rfl ?_
        refine Rs.loadD rfl rfl rfl rfl ?_
        refine Rs.guardT rfl ?_
        refine Rs.move rfl rfl ?_
        refine Rs.guardT rfl ?_
        refine Rs.binB rfl rfl rfl rfl rfl rfl ?_
        refine Rs.guardT rfl ?_
        refine Rs.move rfl rfl ?_
        refine Rs.guard1 (w' := false) rfl rfl rfl (fun hg => ?_) (fun hg => ?_)
        · try replace hg := dc hg
          first | refine Rs.fieldAddrD rfl rfl rfl rfl ?_ | refine Rs.fieldAddrP rfl rfl rfl rfl ?_
          refine Rs.guardT rfl ?_
          refine Rs.loadD rfl rfl rfl rfl ?_
          refine Rs.guardT rfl ?_
          refine Rs.binB rfl rfl rfl rfl rfl rfl ?_
          refine Rs.guardT rfl ?_
          refine Rs.pickT (q := .lit _) rfl rfl rfl rfl ?_
          refine Rs.guardT rfl ?_
          refine Rs.move rfl rfl ?_
          refine Rs.guard1 (w' := false) rfl rfl rfl (fun hg => ?_) (fun hg => ?_)
          · try replace hg := dc hg
            first | refine Rs.fieldAddrD rfl rfl rfl rfl ?_ | refine Rs.fieldAddrP rfl rfl rfl rfl ?_
            refine Rs.guardT rfl ?_
            refine Rs.loadD rfl rfl rfl rfl ?_
            refine Rs.guardT rfl ?_
            refine Rs.binB rfl rfl rfl rfl rfl rfl ?_
            refine Rs.guardT rfl ?_
            refine Rs.pickT (q := .lit _) rfl rfl rfl rfl ?_
            refine Rs.pickF (p := .lit _) rfl rfl rfl rfl ?_
            refine Rs.nil ?_
            refine Ps.thn ?_
            refine Ps.if rfl (fun hc => ?_) (fun hc => ?_)
            · try replace hc := dc hc
              refine Ps.seq ?_
              refine Ps.region rfl ?_
              refine Rs.assign (p := .lit _) rfl rfl ?_
              refine Rs.nil ?_
              refine Ps.thn ?_
              refine Ps.ret ?_
              refine Ps.thn_ret ?_
              -- leaf 2 (ret)
              refine Ps.finP (l := [_]) rfl (by refine ResR.tmp rfl ?_; exact ResR.nil) (by first | rfl | simp [plainP, plainC, cp_lit, cp_dsl, *]) rfl ?_
              show boolP _ = boolP _
              unfold touchS
              congr 2
              first
                | (simp_all; done)
                | (rw [hjc]
                   simp_all
                   done)
                | (rw [hjc, List.drop_eq_nil_of_le (by simp at hc; omega)]
                   simp_all
                   done)
                | (trace_state; sorry)
            · try replace hc := dc hc
              refine Ps.skip ?_
              refine Ps.thn ?_
              refine Ps.seq ?_
              refine Ps.seq ?_
              refine Ps.region rfl ?_
              first | refine Rs.fieldAddrD rfl rfl rfl rfl ?_ | refine Rs.fieldAddrP rfl rfl rfl rfl ?_
              refine Rs.loadD rfl rfl rfl rfl ?_
              first | refine Rs.lenD rfl rfl rfl rfl ?_ | refine Rs.lenO rfl rfl rfl rfl ?_ | refine Rs.lenI rfl rfl rfl rfl ?_ | refine Rs.lenA rfl rfl rfl rfl (by assumption) ?_ | refine Rs.lenS rfl rfl rfl rfl (by assumption) ?_
              refine Rs.move (p := .lit _) rfl rfl ?_
              refine Rs.nil ?_
              refine Ps.thn ?_
              refine Ps.block ?_
              -- loop 1 writes [6, 8, 42, 43, 44, 45, 46, 47, 48, 49, 50, 51, 52, 53, 54, 55]
              refine Ps.loop (J := Nat) ⟨fun j => j ≤ ps.length ∧ ((k == 4 && ps.any fun q => q.1 == n) = (k == 4 && (ps.drop j).any fun q => q.1 == n)), fun j => [(42, i64P j)], fun _ => [], fun j => ps.length - j⟩ [6, 8, 42, 43, 44, 45, 46, 47, 48, 49, 50, 51, 52, 53, 54, 55] ((41, _) :: (40, _) :: (39, _) :: (38, _) :: (37, _) :: (36, _) :: (35, _) :: (34, _) :: (33, _) :: (32, _) :: (31, _) :: (30, _) :: (29, _) :: (28, _) :: (27, _) :: (26, _) :: (25, _) :: (24, _) :: (23, _) :: (22, _) :: (21, _) :: (20, _) :: (19, _) :: (18, _) :: (17, _) :: (16, _) :: (15, _) :: (14, _) :: (13, _) :: (12, _) :: (11, _) :: (10, _) :: (9, _) :: (3, _) :: (0, _) :: (1, _) :: (2, _) :: []) 0 rfl ⟨Nat.zero_le _, rfl⟩ ⟨rfl, trivial⟩ (List.nil_sublist _) (fun j hj => ?_)
              obtain ⟨hj, hjc⟩ : j ≤ ps.length ∧ ((k == 4 && ps.any fun q => q.1 == n) = (k == 4 && (ps.drop j).any fun q => q.1 == n)) := hj
              dsimp only [List.cons_append, List.nil_append]
              refine Ps.seq ?_
              refine Ps.region rfl ?_
              refine Rs.binB rfl rfl rfl rfl rfl rfl ?_
              refine Rs.nil ?_
              refine Ps.thn ?_
              refine Ps.seq ?_
              refine Ps.if rfl (fun hc => ?_) (fun hc => ?_)
              · try replace hc := dc hc
                refine Ps.skip ?_
                refine Ps.thn ?_
                refine Ps.seq ?_
                refine Ps.block ?_
                refine Ps.seq ?_
                have hlt : j < ps.length := by simp at hc; omega
                obtain ⟨x, hx⟩ := at_lt hlt
                rw [drop_at hx, List.any_cons] at hjc
                refine Ps.region rfl ?_
                first | refine Rs.indexD (lc := [_, _]) rfl rfl rfl rfl rfl rfl (map_at hx) rfl ?_ | refine Rs.indexS (lc := [_, _]) rfl rfl rfl rfl rfl (by assumption) rfl (map_at hx) rfl ?_
                first | refine Rs.loadR (p := .agg [_, _]) rfl rfl rfl rfl ?_ | refine Rs.loadP (p := .agg [_, _]) 0 rfl rfl rfl rfl rfl ?_ | refine Rs.loadP (p := .agg [_, _]) 1 rfl rfl rfl rfl rfl ?_ | refine Rs.loadP (p := .agg [_, _]) 2 rfl rfl rfl rfl rfl ?_ | refine Rs.loadP (p := .agg [_, _]) 3 rfl rfl rfl rfl rfl ?_
                refine Rs.alloc (z := .agg [_, _]) (c := 2) rfl rfl rfl (fun g8 => ?_)
                first | refine Rs.store0 (l' := [.agg [_, _]]) rfl rfl rfl (by first | rfl | exact storeB_ag rfl rfl rfl (by simp [scalars, sc_int, sc_str, sc_bool, sc_nil, sc_dsl, sc_own, sc_g, sc_f, *]) | exact storeB_fld rfl (by first | assumption | exact cl_g | exact cl_f) (by first | assumption | exact sc_g | exact sc_f) rfl) ?_ | refine Rs.store1 (l' := [.agg [_, _]]) rfl rfl rfl (by first | rfl | exact storeB_ag rfl rfl rfl (by simp [scalars, sc_int, sc_str, sc_bool, sc_nil, sc_dsl, sc_own, sc_g, sc_f, *]) | exact storeB_fld rfl (by first | assumption | exact cl_g | exact cl_f) (by first | assumption | exact sc_g | exact sc_f) rfl) ?_ | refine Rs.store2 (l' := [.agg [_, _]]) rfl rfl rfl (by first | rfl | exact storeB_ag rfl rfl rfl (by simp [scalars, sc_int, sc_str, sc_bool, sc_nil, sc_dsl, sc_own, sc_g, sc_f, *]) | exact storeB_fld rfl (by first | assumption | exact cl_g | exact cl_f) (by first | assumption | exact sc_g | exact sc_f) rfl) ?_ | refine Rs.store3 (l' := [.agg [_, _]]) rfl rfl rfl (by first | rfl | exact storeB_ag rfl rfl rfl (by simp [scalars, sc_int, sc_str, sc_bool, sc_nil, sc_dsl, sc_own, sc_g, sc_f, *]) | exact storeB_fld rfl (by first | assumption | exact cl_g | exact cl_f) (by first | assumption | exact sc_g | exact sc_f) rfl) ?_
                refine Rs.nil ?_
                refine Ps.thn ?_
                refine Ps.seq ?_
                refine Ps.region rfl ?_
                first | refine Rs.fieldAddrD (off' := 0) rfl rfl rfl rfl ?_ | refine Rs.fieldAddrP (off' := 0) rfl rfl rfl rfl ?_
                first | refine Rs.loadR rfl rfl rfl rfl ?_ | refine Rs.loadP 0 rfl rfl rfl rfl rfl ?_ | refine Rs.loadP 1 rfl rfl rfl rfl rfl ?_ | refine Rs.loadP 2 rfl rfl rfl rfl rfl ?_ | refine Rs.loadP 3 rfl rfl rfl rfl rfl ?_
                refine Rs.move rfl rfl ?_
                refine Rs.binB rfl rfl rfl rfl rfl rfl ?_
                refine Rs.move rfl rfl ?_
                refine Rs.guard1 (w' := false) rfl rfl rfl (fun hg => ?_) (fun hg => ?_)
                · try replace hg := dc hg
                  first | refine Rs.fieldAddrD rfl rfl rfl rfl ?_ | refine Rs.fieldAddrP rfl rfl rfl rfl ?_
                  refine Rs.guardT rfl ?_
                  refine Rs.loadD rfl rfl rfl rfl ?_
                  refine Rs.guardT rfl ?_
                  refine Rs.binB rfl rfl rfl rfl rfl rfl ?_
                  refine Rs.pickT (q := .lit _) rfl rfl rfl rfl ?_
                  refine Rs.nil ?_
                  refine Ps.thn ?_
                  refine Ps.if rfl (fun hc => ?_) (fun hc => ?_)
                  · try replace hc := dc hc
                    refine Ps.seq ?_
                    refine Ps.region rfl ?_
                    refine Rs.assign (p := .lit _) rfl rfl ?_
                    refine Rs.nil ?_
                    refine Ps.thn ?_
                    refine Ps.ret ?_
                    refine Ps.blk_ret ?_
                    refine Ps.thn_ret ?_
                    refine Ps.rnd_ret ?_
                    refine Ps.blk_ret ?_
                    refine Ps.thn_ret ?_
                    -- leaf 3 (ret)
                    refine Ps.finP (l := [_]) rfl (by refine ResR.tmp rfl ?_; exact ResR.nil) (by first | rfl | simp [plainP, plainC, cp_lit, cp_dsl, *]) rfl ?_
                    show boolP _ = boolP _
                    unfold touchS
                    congr 2
                    first
                      | (simp_all; done)
                      | (rw [hjc]
                         simp_all
                         done)
                      | (rw [hjc, List.drop_eq_nil_of_le (by simp at hc; omega)]
                         simp_all
                         done)
                      | (trace_state; sorry)
                  · try replace hc := dc hc
                    refine Ps.skip ?_
                    refine Ps.blk ?_
                    refine Ps.thn ?_
                    refine Ps.region rfl ?_
                    refine Rs.add rfl rfl rfl (by first | exact W_i64s (by omega) | exact W_i64 (by omega) (by omega) | rfl) ?_
                    refine Rs.move rfl rfl ?_
                    refine Rs.nil ?_
                    -- leaf 4 (round1)
                    refine Ps.round (j + 1) ⟨hlt, ?_⟩ (by show ps.length - (j + 1) < ps.length - j; omega) ⟨rfl, trivial⟩ (by repeat' first | exact HasL.nil | refine HasL.cons rfl ?_) (by repeat' first | exact List.Sublist.refl _ | exact List.nil_sublist _ | exact List.sublist_append_left _ _ | refine List.Sublist.cons_cons _ ?_ | refine List.Sublist.cons _ ?_)
                    rw [hjc]
                    first
                      | (have hxn : (x.1 == n) = false := by simpa using hg
                         rw [hxn, Bool.false_or]
                         done)
                      | (simp_all; done)
                · try replace hg := dc hg
                  refine Rs.guardF1 rfl rfl rfl ?_
                  refine Rs.guardF1 rfl rfl rfl ?_
                  refine Rs.pickF (q := .lit _) rfl rfl rfl rfl ?_
                  refine Rs.nil ?_
                  refine Ps.thn ?_
                  refine Ps.ifF rfl ?_
                  refine Ps.skip ?_
                  refine Ps.blk ?_
                  refine Ps.thn ?_
                  refine Ps.region rfl ?_
                  refine Rs.add rfl rfl rfl (by first | exact W_i64s (by omega) | exact W_i64 (by omega) (by omega) | rfl) ?_
                  refine Rs.move rfl rfl ?_
                  refine Rs.nil ?_
                  -- leaf 5 (round1)
                  refine Ps.round (j + 1) ⟨hlt, ?_⟩ (by show ps.length - (j + 1) < ps.length - j; omega) ⟨rfl, trivial⟩ (by repeat' first | exact HasL.nil | refine HasL.cons rfl ?_) (by repeat' first | exact List.Sublist.refl _ | exact List.nil_sublist _ | exact List.sublist_append_left _ _ | refine List.Sublist.cons_cons _ ?_ | refine List.Sublist.cons _ ?_)
                  rw [hjc]
                  first
                    | (have hxn : (x.1 == n) = false := by simpa using hg
                       rw [hxn, Bool.false_or]
                       done)
                    | (simp_all; done)
              · try replace hc := dc hc
                refine Ps.exit ?_
                refine Ps.thn_exit ?_
                refine Ps.rnd_exit ?_
                refine Ps.blk_here ?_
                refine Ps.thn ?_
                refine Ps.seq ?_
                refine Ps.region rfl ?_
                refine Rs.assign (p := .lit _) rfl rfl ?_
                refine Rs.nil ?_
                refine Ps.thn ?_
                refine Ps.ret ?_
                -- leaf 6 (ret)
                refine Ps.finP (l := [_]) rfl (by refine ResR.tmp rfl ?_; exact ResR.nil) (by first | rfl | simp [plainP, plainC, cp_lit, cp_dsl, *]) rfl ?_
                show boolP _ = boolP _
                unfold touchS
                congr 2
                first
                  | (simp_all; done)
                  | (rw [hjc]
                     simp_all
                     done)
                  | (rw [hjc, List.drop_eq_nil_of_le (by simp at hc; omega)]
                     simp_all
                     done)
                  | (trace_state; sorry)
          · try replace hg := dc hg
            refine Rs.guardF1 rfl rfl rfl ?_
            refine Rs.guardF1 rfl rfl rfl ?_
            refine Rs.guardT rfl ?_
            refine Rs.pickF (q := .lit _) rfl rfl rfl rfl ?_
            refine Rs.pickF (p := .lit _) rfl rfl rfl rfl ?_
            refine Rs.nil ?_
            refine Ps.thn ?_
            refine Ps.ifF rfl ?_
            refine Ps.skip ?_
            refine Ps.thn ?_
            refine Ps.seq ?_
            refine Ps.seq ?_
            refine Ps.region rfl ?_
            first | refine Rs.fieldAddrD rfl rfl rfl rfl ?_ | refine Rs.fieldAddrP rfl rfl rfl rfl ?_
            refine Rs.loadD rfl rfl rfl rfl ?_
            first | refine Rs.lenD rfl rfl rfl rfl ?_ | refine Rs.lenO rfl rfl rfl rfl ?_ | refine Rs.lenI rfl rfl rfl rfl ?_ | refine Rs.lenA rfl rfl rfl rfl (by assumption) ?_ | refine Rs.lenS rfl rfl rfl rfl (by assumption) ?_
            refine Rs.move (p := .lit _) rfl rfl ?_
            refine Rs.nil ?_
            refine Ps.thn ?_
            refine Ps.block ?_
            -- loop 2 writes [6, 8, 42, 43, 44, 45, 46, 47, 48, 49, 50, 51, 52, 53, 54, 55]
            refine Ps.loop (J := Nat) ⟨fun j => j ≤ ps.length ∧ ((k == 4 && ps.any fun q => q.1 == n) = (k == 4 && (ps.drop j).any fun q => q.1 == n)), fun j => [(42, i64P j)], fun _ => [], fun j => ps.length - j⟩ [6, 8, 42, 43, 44, 45, 46, 47, 48, 49, 50, 51, 52, 53, 54, 55] ((41, _) :: (40, _) :: (39, _) :: (38, _) :: (37, _) :: (36, _) :: (35, _) :: (34, _) :: (33, _) :: (32, _) :: (31, _) :: (30, _) :: (29, _) :: (28, _) :: (27, _) :: (26, _) :: (25, _) :: (24, _) :: (23, _) :: (22, _) :: (21, _) :: (20, _) :: (19, _) :: (18, _) :: (17, _) :: (16, _) :: (15, _) :: (14, _) :: (13, _) :: (12, _) :: (11, _) :: (10, _) :: (9, _) :: (3, _) :: (0, _) :: (1, _) :: (2, _) :: []) 0 rfl ⟨Nat.zero_le _, rfl⟩ ⟨rfl, trivial⟩ (List.nil_sublist _) (fun j hj => ?_)
            obtain ⟨hj, hjc⟩ : j ≤ ps.length ∧ ((k == 4 && ps.any fun q => q.1 == n) = (k == 4 && (ps.drop j).any fun q => q.1 == n)) := hj
            dsimp only [List.cons_append, List.nil_append]
            refine Ps.seq ?_
            refine Ps.region rfl ?_
            refine Rs.binB rfl rfl rfl rfl rfl rfl ?_
            refine Rs.nil ?_
            refine Ps.thn ?_
            refine Ps.seq ?_
            refine Ps.if rfl (fun hc => ?_) (fun hc => ?_)
            · try replace hc := dc hc
              refine Ps.skip ?_
              refine Ps.thn ?_
              refine Ps.seq ?_
              refine Ps.block ?_
              refine Ps.seq ?_
              have hlt : j < ps.length := by simp at hc; omega
              obtain ⟨x, hx⟩ := at_lt hlt
              rw [drop_at hx, List.any_cons] at hjc
              refine Ps.region rfl ?_
              first | refine Rs.indexD (lc := [_, _]) rfl rfl rfl rfl rfl rfl (map_at hx) rfl ?_ | refine Rs.indexS (lc := [_, _]) rfl rfl rfl rfl rfl (by assumption) rfl (map_at hx) rfl ?_
              first | refine Rs.loadR (p := .agg [_, _]) rfl rfl rfl rfl ?_ | refine Rs.loadP (p := .agg [_, _]) 0 rfl rfl rfl rfl rfl ?_ | refine Rs.loadP (p := .agg [_, _]) 1 rfl rfl rfl rfl rfl ?_ | refine Rs.loadP (p := .agg [_, _]) 2 rfl rfl rfl rfl rfl ?_ | refine Rs.loadP (p := .agg [_, _]) 3 rfl rfl rfl rfl rfl ?_
              refine Rs.alloc (z := .agg [_, _]) (c := 2) rfl rfl rfl (fun g8 => ?_)
              first | refine Rs.store0 (l' := [.agg [_, _]]) rfl rfl rfl (by first | rfl | exact storeB_ag rfl rfl rfl (by simp [scalars, sc_int, sc_str, sc_bool, sc_nil, sc_dsl, sc_own, sc_g, sc_f, *]) | exact storeB_fld rfl (by first | assumption | exact cl_g | exact cl_f) (by first | assumption | exact sc_g | exact sc_f) rfl) ?_ | refine Rs.store1 (l' := [.agg [_, _]]) rfl rfl rfl (by first | rfl | exact storeB_ag rfl rfl rfl (by simp [scalars, sc_int, sc_str, sc_bool, sc_nil, sc_dsl, sc_own, sc_g, sc_f, *]) | exact storeB_fld rfl (by first | assumption | exact cl_g | exact cl_f) (by first | assumption | exact sc_g | exact sc_f) rfl) ?_ | refine Rs.store2 (l' := [.agg [_, _]]) rfl rfl rfl (by first | rfl | exact storeB_ag rfl rfl rfl (by simp [scalars, sc_int, sc_str, sc_bool, sc_nil, sc_dsl, sc_own, sc_g, sc_f, *]) | exact storeB_fld rfl (by first | assumption | exact cl_g | exact cl_f) (by first | assumption | exact sc_g | exact sc_f) rfl) ?_ | refine Rs.store3 (l' := [.agg [_, _]]) rfl rfl rfl (by first | rfl | exact storeB_ag rfl rfl rfl (by simp [scalars, sc_int, sc_str, sc_bool, sc_nil, sc_dsl, sc_own, sc_g, sc_f, *]) | exact storeB_fld rfl (by first | assumption | exact cl_g | exact cl_f) (by first | assumption | exact sc_g | exact sc_f) rfl) ?_
              refine Rs.nil ?_
              refine Ps.thn ?_
              refine Ps.seq ?_
              refine Ps.region rfl ?_
              first | refine Rs.fieldAddrD (off' := 0) rfl rfl rfl rfl ?_ | refine Rs.fieldAddrP (off' := 0) rfl rfl rfl rfl ?_
              first | refine Rs.loadR rfl rfl rfl rfl ?_ | refine Rs.loadP 0 rfl rfl rfl rfl rfl ?_ | refine Rs.loadP 1 rfl rfl rfl rfl rfl ?_ | refine Rs.loadP 2 rfl rfl rfl rfl rfl ?_ | refine Rs.loadP 3 rfl rfl rfl rfl rfl ?_
              refine Rs.move rfl rfl ?_
              refine Rs.binB rfl rfl rfl rfl rfl rfl ?_
              refine Rs.move rfl rfl ?_
              refine Rs.guard1 (w' := false) rfl rfl rfl (fun hg => ?_) (fun hg => ?_)
              · try replace hg := dc hg
                first | refine Rs.fieldAddrD rfl rfl rfl rfl ?_ | refine Rs.fieldAddrP rfl rfl rfl rfl ?_
                refine Rs.guardT rfl ?_
                refine Rs.loadD rfl rfl rfl rfl ?_
                refine Rs.guardT rfl ?_
                refine Rs.binB rfl rfl rfl rfl rfl rfl ?_
                refine Rs.pickT (q := .lit _) rfl rfl rfl rfl ?_
                refine Rs.nil ?_
                refine Ps.thn ?_
                refine Ps.if rfl (fun hc => ?_) (fun hc => ?_)
                · try replace hc := dc hc
                  refine Ps.seq ?_
                  refine Ps.region rfl ?_
                  refine Rs.assign (p := .lit _) rfl rfl ?_
                  refine Rs.nil ?_
                  refine Ps.thn ?_
                  refine Ps.ret ?_
                  refine Ps.blk_ret ?_
                  refine Ps.thn_ret ?_
                  refine Ps.rnd_ret ?_
                  refine Ps.blk_ret ?_
                  refine Ps.thn_ret ?_
                  -- leaf 7 (ret)
                  refine Ps.finP (l := [_]) rfl (by refine ResR.tmp rfl ?_; exact ResR.nil) (by first | rfl | simp [plainP, plainC, cp_lit, cp_dsl, *]) rfl ?_
                  show boolP _ = boolP _
                  unfold touchS
                  congr 2
                  first
                    | (simp_all; done)
                    | (rw [hjc]
                       simp_all
                       done)
                    | (rw [hjc, List.drop_eq_nil_of_le (by simp at hc; omega)]
                       simp_all
                       done)
                    | (trace_state; sorry)
                · try replace hc := dc hc
                  refine Ps.skip ?_
                  refine Ps.blk ?_
                  refine Ps.thn ?_
                  refine Ps.region rfl ?_
                  refine Rs.add rfl rfl rfl (by first | exact W_i64s (by omega) | exact W_i64 (by omega) (by omega) | rfl) ?_
                  refine Rs.move rfl rfl ?_
                  refine Rs.nil ?_
                  -- leaf 8 (round2)
                  refine Ps.round (j + 1) ⟨hlt, ?_⟩ (by show ps.length - (j + 1) < ps.length - j; omega) ⟨rfl, trivial⟩ (by repeat' first | exact HasL.nil | refine HasL.cons rfl ?_) (by repeat' first | exact List.Sublist.refl _ | exact List.nil_sublist _ | exact List.sublist_append_left _ _ | refine List.Sublist.cons_cons _ ?_ | refine List.Sublist.cons _ ?_)
                  rw [hjc]
                  first
                    | (have hxn : (x.1 == n) = false := by simpa using hg
                       rw [hxn, Bool.false_or]
                       done)
                    | (simp_all; done)
              · try replace hg := dc hg
                refine Rs.guardF1 rfl rfl rfl ?_
                refine Rs.guardF1 rfl rfl rfl ?_
                refine Rs.pickF (q := .lit _) rfl rfl rfl rfl ?_
                refine Rs.nil ?_
                refine Ps.thn ?_
                refine Ps.ifF rfl ?_
                refine Ps.skip ?_
                refine Ps.blk ?_
                refine Ps.thn ?_
                refine Ps.region rfl ?_
                refine Rs.add rfl rfl rfl (by first | exact W_i64s (by omega) | exact W_i64 (by omega) (by omega) | rfl) ?_
                refine Rs.move rfl rfl ?_
                refine Rs.nil ?_
                -- leaf 9 (round2)
                refine Ps.round (j + 1) ⟨hlt, ?_⟩ (by show ps.length - (j + 1) < ps.length - j; omega) ⟨rfl, trivial⟩ (by repeat' first | exact HasL.nil | refine HasL.cons rfl ?_) (by repeat' first | exact List.Sublist.refl _ | exact List.nil_sublist _ | exact List.sublist_append_left _ _ | refine List.Sublist.cons_cons _ ?_ | refine List.Sublist.cons _ ?_)
                rw [hjc]
                first
                  | (have hxn : (x.1 == n) = false := by simpa using hg
                     rw [hxn, Bool.false_or]
                     done)
                  | (simp_all; done)
            · try replace hc := dc hc
              refine Ps.exit ?_
              refine Ps.thn_exit ?_
              refine Ps.rnd_exit ?_
              refine Ps.blk_here ?_
              refine Ps.thn ?_
              refine Ps.seq ?_
              refine Ps.region rfl ?_
              refine Rs.assign (p := .lit _) rfl rfl ?_
              refine Rs.nil ?_
              refine Ps.thn ?_
              refine Ps.ret ?_
              -- leaf 10 (ret)
              refine Ps.finP (l := [_]) rfl (by refine ResR.tmp rfl ?_; exact ResR.nil) (by first | rfl | simp [plainP, plainC, cp_lit, cp_dsl, *]) rfl ?_
              show boolP _ = boolP _
              unfold touchS
              congr 2
              first
                | (simp_all; done)
                | (rw [hjc]
                   simp_all
                   done)
                | (rw [hjc, List.drop_eq_nil_of_le (by simp at hc; omega)]
                   simp_all
                   done)
                | (trace_state; sorry)
        · try replace hg := dc hg
          refine Rs.guardF1 rfl rfl rfl ?_
          refine Rs.guardF1 rfl rfl rfl ?_
          refine Rs.guardT rfl ?_
          refine Rs.pickF (q := .lit _) rfl rfl rfl rfl ?_
          refine Rs.guardT rfl ?_
          refine Rs.move rfl rfl ?_
          refine Rs.guardF1 rfl rfl rfl ?_
          refine Rs.guardF1 rfl rfl rfl ?_
          refine Rs.guardF1 rfl rfl rfl ?_
          refine Rs.guardT rfl ?_
          refine Rs.pickF (q := .lit _) rfl rfl rfl rfl ?_
          refine Rs.pickF (p := .lit _) rfl rfl rfl rfl ?_
          refine Rs.nil ?_
          refine Ps.thn ?_
          refine Ps.ifF rfl ?_
          refine Ps.skip ?_
          refine Ps.thn ?_
          refine Ps.seq ?_
          refine Ps.seq ?_
          refine Ps.region rfl ?_
          first | refine Rs.fieldAddrD rfl rfl rfl rfl ?_ | refine Rs.fieldAddrP rfl rfl rfl rfl ?_
          refine Rs.loadD rfl rfl rfl rfl ?_
          first | refine Rs.lenD rfl rfl rfl rfl ?_ | refine Rs.lenO rfl rfl rfl rfl ?_ | refine Rs.lenI rfl rfl rfl rfl ?_ | refine Rs.lenA rfl rfl rfl rfl (by assumption) ?_ | refine Rs.lenS rfl rfl rfl rfl (by assumption) ?_
          refine Rs.move (p := .lit _) rfl rfl ?_
          refine Rs.nil ?_
          refine Ps.thn ?_
          refine Ps.block ?_
          -- loop 3 writes [6, 8, 42, 43, 44, 45, 46, 47, 48, 49, 50, 51, 52, 53, 54, 55]
          refine Ps.loop (J := Nat) ⟨fun j => j ≤ ps.length ∧ ((k == 4 && ps.any fun q => q.1 == n) = (k == 4 && (ps.drop j).any fun q => q.1 == n)), fun j => [(42, i64P j)], fun _ => [], fun j => ps.length - j⟩ [6, 8, 42, 43, 44, 45, 46, 47, 48, 49, 50, 51, 52, 53, 54, 55] ((41, _) :: (40, _) :: (39, _) :: (38, _) :: (37, _) :: (36, _) :: (35, _) :: (34, _) :: (33, _) :: (32, _) :: (31, _) :: (30, _) :: (29, _) :: (28, _) :: (27, _) :: (26, _) :: (25, _) :: (24, _) :: (23, _) :: (22, _) :: (21, _) :: (20, _) :: (19, _) :: (18, _) :: (17, _) :: (16, _) :: (15, _) :: (14, _) :: (13, _) :: (12, _) :: (11, _) :: (10, _) :: (9, _) :: (3, _) :: (0, _) :: (1, _) :: (2, _) :: []) 0 rfl ⟨Nat.zero_le _, rfl⟩ ⟨rfl, trivial⟩ (List.nil_sublist _) (fun j hj => ?_)
          obtain ⟨hj, hjc⟩ : j ≤ ps.length ∧ ((k == 4 && ps.any fun q => q.1 == n) = (k == 4 && (ps.drop j).any fun q => q.1 == n)) := hj
          dsimp only [List.cons_append, List.nil_append]
          refine Ps.seq ?_
          refine Ps.region rfl ?_
          refine Rs.binB rfl rfl rfl rfl rfl rfl ?_
          refine Rs.nil ?_
          refine Ps.thn ?_
          refine Ps.seq ?_
          refine Ps.if rfl (fun hc => ?_) (fun hc => ?_)
          · try replace hc := dc hc
            refine Ps.skip ?_
            refine Ps.thn ?_
            refine Ps.seq ?_
            refine Ps.block ?_
            refine Ps.seq ?_
            have hlt : j < ps.length := by simp at hc; omega
            obtain ⟨x, hx⟩ := at_lt hlt
            rw [drop_at hx, List.any_cons] at hjc
            refine Ps.region rfl ?_
            first | refine Rs.indexD (lc := [_, _]) rfl rfl rfl rfl rfl rfl (map_at hx) rfl ?_ | refine Rs.indexS (lc := [_, _]) rfl rfl rfl rfl rfl (by assumption) rfl (map_at hx) rfl ?_
            first | refine Rs.loadR (p := .agg [_, _]) rfl rfl rfl rfl ?_ | refine Rs.loadP (p := .agg [_, _]) 0 rfl rfl rfl rfl rfl ?_ | refine Rs.loadP (p := .agg [_, _]) 1 rfl rfl rfl rfl rfl ?_ | refine Rs.loadP (p := .agg [_, _]) 2 rfl rfl rfl rfl rfl ?_ | refine Rs.loadP (p := .agg [_, _]) 3 rfl rfl rfl rfl rfl ?_
            refine Rs.alloc (z := .agg [_, _]) (c := 2) rfl rfl rfl (fun g8 => ?_)
            first | refine Rs.store0 (l' := [.agg [_, _]]) rfl rfl rfl (by first | rfl | exact storeB_ag rfl rfl rfl (by simp [scalars, sc_int, sc_str, sc_bool, sc_nil, sc_dsl, sc_own, sc_g, sc_f, *]) | exact storeB_fld rfl (by first | assumption | exact cl_g | exact cl_f) (by first | assumption | exact sc_g | exact sc_f) rfl) ?_ | refine Rs.store1 (l' := [.agg [_, _]]) rfl rfl rfl (by first | rfl | exact storeB_ag rfl rfl rfl (by simp [scalars, sc_int, sc_str, sc_bool, sc_nil, sc_dsl, sc_own, sc_g, sc_f, *]) | exact storeB_fld rfl (by first | assumption | exact cl_g | exact cl_f) (by first | assumption | exact sc_g | exact sc_f) rfl) ?_ | refine Rs.store2 (l' := [.agg [_, _]]) rfl rfl rfl (by first | rfl | exact storeB_ag rfl rfl rfl (by simp [scalars, sc_int, sc_str, sc_bool, sc_nil, sc_dsl, sc_own, sc_g, sc_f, *]) | exact storeB_fld rfl (by first | assumption | exact cl_g | exact cl_f) (by first | assumption | exact sc_g | exact sc_f) rfl) ?_ | refine Rs.store3 (l' := [.agg [_, _]]) rfl rfl rfl (by first | rfl | exact storeB_ag rfl rfl rfl (by simp [scalars, sc_int, sc_str, sc_bool, sc_nil, sc_dsl, sc_own, sc_g, sc_f, *]) | exact storeB_fld rfl (by first | assumption | exact cl_g | exact cl_f) (by first | assumption | exact sc_g | exact sc_f) rfl) ?_
            refine Rs.nil ?_
            refine Ps.thn ?_
            refine Ps.seq ?_
            refine Ps.region rfl ?_
            first | refine Rs.fieldAddrD (off' := 0) rfl rfl rfl rfl ?_ | refine Rs.fieldAddrP (off' := 0) rfl rfl rfl rfl ?_
            first | refine Rs.loadR rfl rfl rfl rfl ?_ | refine Rs.loadP 0 rfl rfl rfl rfl rfl ?_ | refine Rs.loadP 1 rfl rfl rfl rfl rfl ?_ | refine Rs.loadP 2 rfl rfl rfl rfl rfl ?_ | refine Rs.loadP 3 rfl rfl rfl rfl rfl ?_
            refine Rs.move rfl rfl ?_
            refine Rs.binB rfl rfl rfl rfl rfl rfl ?_
            refine Rs.move rfl rfl ?_
            refine Rs.guard1 (w' := false) rfl rfl rfl (fun hg => ?_) (fun hg => ?_)
            · try replace hg := dc hg
              first | refine Rs.fieldAddrD rfl rfl rfl rfl ?_ | refine Rs.fieldAddrP rfl rfl rfl rfl ?_
              refine Rs.guardT rfl ?_
              refine Rs.loadD rfl rfl rfl rfl ?_
              refine Rs.guardT rfl ?_
              refine Rs.binB rfl rfl rfl rfl rfl rfl ?_
              refine Rs.pickT (q := .lit _) rfl rfl rfl rfl ?_
              refine Rs.nil ?_
              refine Ps.thn ?_
              refine Ps.if rfl (fun hc => ?_) (fun hc => ?_)
              · try replace hc := dc hc
                refine Ps.seq ?_
                refine Ps.region rfl ?_
                refine Rs.assign (p := .lit _) rfl rfl ?_
                refine Rs.nil ?_
                refine Ps.thn ?_
                refine Ps.ret ?_
                refine Ps.blk_ret ?_
                refine Ps.thn_ret ?_
                refine Ps.rnd_ret ?_
                refine Ps.blk_ret ?_
                refine Ps.thn_ret ?_
                -- leaf 11 (ret)
                refine Ps.finP (l := [_]) rfl (by refine ResR.tmp rfl ?_; exact ResR.nil) (by first | rfl | simp [plainP, plainC, cp_lit, cp_dsl, *]) rfl ?_
                show boolP _ = boolP _
                unfold touchS
                congr 2
                first
                  | (simp_all; done)
                  | (rw [hjc]
                     simp_all
                     done)
                  | (rw [hjc, List.drop_eq_nil_of_le (by simp at hc; omega)]
                     simp_all
                     done)
                  | (trace_state; sorry)
              · try replace hc := dc hc
                refine Ps.skip ?_
                refine Ps.blk ?_
                refine Ps.thn ?_
                refine Ps.region rfl ?_
                refine Rs.add rfl rfl rfl (by first | exact W_i64s (by omega) | exact W_i64 (by omega) (by omega) | rfl) ?_
                refine Rs.move rfl rfl ?_
                refine Rs.nil ?_
                -- leaf 12 (round3)
                refine Ps.round (j + 1) ⟨hlt, ?_⟩ (by show ps.length - (j + 1) < ps.length - j; omega) ⟨rfl, trivial⟩ (by repeat' first | exact HasL.nil | refine HasL.cons rfl ?_) (by repeat' first | exact List.Sublist.refl _ | exact List.nil_sublist _ | exact List.sublist_append_left _ _ | refine List.Sublist.cons_cons _ ?_ | refine List.Sublist.cons _ ?_)
                rw [hjc]
                first
                  | (have hxn : (x.1 == n) = false := by simpa using hg
                     rw [hxn, Bool.false_or]
                     done)
                  | (simp_all; done)
            · try replace hg := dc hg
              refine Rs.guardF1 rfl rfl rfl ?_
              refine Rs.guardF1 rfl rfl rfl ?_
              refine Rs.pickF (q := .lit _) rfl rfl rfl rfl ?_
              refine Rs.nil ?_
              refine Ps.thn ?_
              refine Ps.ifF rfl ?_
              refine Ps.skip ?_
              refine Ps.blk ?_
              refine Ps.thn ?_
              refine Ps.region rfl ?_
              refine Rs.add rfl rfl rfl (by first | exact W_i64s (by omega) | exact W_i64 (by omega) (by omega) | rfl) ?_
              refine Rs.move rfl rfl ?_
              refine Rs.nil ?_
              -- leaf 13 (round3)
              refine Ps.round (j + 1) ⟨hlt, ?_⟩ (by show ps.length - (j + 1) < ps.length - j; omega) ⟨rfl, trivial⟩ (by repeat' first | exact HasL.nil | refine HasL.cons rfl ?_) (by repeat' first | exact List.Sublist.refl _ | exact List.nil_sublist _ | exact List.sublist_append_left _ _ | refine List.Sublist.cons_cons _ ?_ | refine List.Sublist.cons _ ?_)
              rw [hjc]
              first
                | (have hxn : (x.1 == n) = false := by simpa using hg
                   rw [hxn, Bool.false_or]
                   done)
                | (simp_all; done)
          · try replace hc := dc hc
            refine Ps.exit ?_
            refine Ps.thn_exit ?_
            refine Ps.rnd_exit ?_
            refine Ps.blk_here ?_
            refine Ps.thn ?_
            refine Ps.seq ?_
            refine Ps.region rfl ?_
            refine Rs.assign (p := .lit _) rfl rfl ?_
            refine Rs.nil ?_
            refine Ps.thn ?_
            refine Ps.ret ?_
            -- leaf 14 (ret)
            refine Ps.finP (l := [_]) rfl (by refine ResR.tmp rfl ?_; exact ResR.nil) (by first | rfl | simp [plainP, plainC, cp_lit, cp_dsl, *]) rfl ?_
            show boolP _ = boolP _
            unfold touchS
            congr 2
            first
              | (simp_all; done)
              | (rw [hjc]
                 simp_all
                 done)
              | (rw [hjc, List.drop_eq_nil_of_le (by simp at hc; omega)]
                 simp_all
                 done)
              | (trace_state; sorry)
      · try replace hg := dc hg
        refine Rs.guardF1 rfl rfl rfl ?_
        refine Rs.guardF1 rfl rfl rfl ?_
        refine Rs.guardF1 rfl rfl rfl ?_
        refine Rs.guardF1 rfl rfl rfl ?_
        refine Rs.guardU1 rfl rfl ?_
        refine Rs.guardU1 rfl rfl ?_
        refine Rs.guardU1 rfl rfl ?_
        refine Rs.guardF1 rfl rfl rfl ?_
        refine Rs.guardF1 rfl rfl rfl ?_
        refine Rs.guardU1 rfl rfl ?_
        refine Rs.guardU1 rfl rfl ?_
        refine Rs.guardU1 rfl rfl ?_
        refine Rs.guardF1 rfl rfl rfl ?_
        refine Rs.pickT (p := .lit _) rfl rfl rfl rfl ?_
        refine Rs.nil ?_
        refine Ps.thn ?_
        refine Ps.ifT rfl ?_
        refine Ps.seq ?_
        refine Ps.region rfl ?_
        refine Rs.assign (p := .lit _) rfl rfl ?_
        refine Rs.nil ?_
        refine Ps.thn ?_
        refine Ps.ret ?_
        refine Ps.thn_ret ?_
        -- leaf 15 (ret)
        refine Ps.finP (l := [_]) rfl (by refine ResR.tmp rfl ?_; exact ResR.nil) (by first | rfl | simp [plainP, plainC, cp_lit, cp_dsl, *]) rfl ?_
        show boolP _ = boolP _
        unfold touchS
        congr 2
        first
          | (simp_all; done)
          | (rw [hjc]
             simp_all
             done)
          | (rw [hjc, List.drop_eq_nil_of_le (by simp at hc; omega)]
             simp_all
             done)
          | (trace_state; sorry)
  · try replace hg := dc hg
    refine Rs.guardF1 rfl rfl rfl ?_
    refine Rs.guardF1 rfl rfl rfl ?_
    refine Rs.guardF1 rfl rfl rfl ?_
    refine Rs.guardF1 rfl rfl rfl ?_
    refine Rs.pickT (p := .lit _) rfl rfl rfl rfl ?_
    refine Rs.nil ?_
    refine Ps.thn ?_
    refine Ps.ifT rfl ?_
    refine Ps.seq ?_
    refine Ps.region rfl ?_
    refine Rs.assign (p := .lit _) rfl rfl ?_
    refine Rs.nil ?_
    refine Ps.thn ?_
    refine Ps.ret ?_
    refine Ps.thn_ret ?_
    -- leaf 16 (ret)
    refine Ps.finP (l := [_]) rfl (by refine ResR.tmp rfl ?_; exact ResR.nil) (by first | rfl | simp [plainP, plainC, cp_lit, cp_dsl, *]) rfl ?_
    show boolP _ = boolP _
    unfold touchS
    congr 2
    first
      | (simp_all; done)
      | (rw [hjc]
         simp_all
         done)
      | (rw [hjc, List.drop_eq_nil_of_le (by simp at hc; omega)]
         simp_all
         done)
      | (trace_state; sorry)
end Go.Proofs.YthabndifdgafbaaGreatDoor.RV.T
end
section
open Go Go.Proofs.YthabndifdgafbaaGreatDoor.RV Go.Proofs.YthabndifdgafbaaGreatDoor.XA.Awk Go.Proofs.YthabndifdgafbaaGreatDoor.RV.ChartMath Go.Proofs
namespace Go.Proofs.YthabndifdgafbaaGreatDoor.RV.T
set_option maxRecDepth 100000
set_option linter.unusedVariables false
set_option linter.unusedSimpArgs false
variable {spc : Sp}
theorem tch1_ok (q : Int × Int) (g : Nat) (n : Int) (M0 : Mem) : Fm0 (cfg spc) 31 [partP q, .ptr g 0 0 0] ((g, 0, .blk 1 [u32P n] true) :: M0) (fun r M' => M' = (g, 0, .blk 1 [u32P n] true) :: M0 ∧ r = boolP (q.1 == n)) := by
  refine Fm0.go Tryz.func31 (L := [(0, _), (1, _)]) rfl rfl rfl rfl ?_
  refine Ps.seq ?_
  refine Ps.region rfl ?_
  refine Rs.box (l := [_, _]) rfl rfl rfl (by first | rfl | simp [deepB, deepL, *]) rfl ?_
  refine Rs.assign (p := .lit _) rfl rfl ?_
  refine Rs.nil ?_
  refine Ps.thn ?_
  refine Ps.seq ?_
  refine Ps.region rfl ?_
  first | refine Rs.fieldAddrD (off' := 0) rfl rfl rfl rfl ?_ | refine Rs.fieldAddrP (off' := 0) rfl rfl rfl rfl ?_
  refine Rs.loadD rfl rfl rfl rfl ?_
  first | refine Rs.loadR rfl rfl rfl rfl ?_ | refine Rs.loadP 0 rfl rfl rfl rfl rfl ?_ | refine Rs.loadP 1 rfl rfl rfl rfl rfl ?_ | refine Rs.loadP 2 rfl rfl rfl rfl rfl ?_ | refine Rs.loadP 3 rfl rfl rfl rfl rfl ?_
  refine Rs.binB rfl rfl rfl rfl rfl rfl ?_
  refine Rs.assign rfl rfl ?_
  refine Rs.nil ?_
  refine Ps.thn ?_
  refine Ps.ret ?_
  -- leaf 1 (ret)
  refine Ps.finM0 (l := [_]) rfl (by refine ResR.tmp rfl ?_; exact ResR.nil) ⟨rfl, ?_⟩
  rfl
theorem idxPart_ok (ps : List (Int × Int)) (pp : PV) (hpp : IsSl 2 (ps.map partP) pp) (hl : ps.length ≤ 8) (g : Nat) (n : Int) (M0 : Mem) : Fm0 (cfg spc) 38 [pp, .clo 31 [] [.ptr g 0 0 0]] ((g, 0, .blk 1 [u32P n] true) :: M0) (fun r M' => M' = (g, 0, .blk 1 [u32P n] true) :: M0 ∧ ∃ i : Int, r = i64P i ∧ decide (0 ≤ i) = ps.any fun q => q.1 == n) := by
  refine Fm0.go Tryz.func38 (L := [(0, _), (1, _)]) rfl rfl rfl rfl ?_
  refine Ps.seq ?_
  refine Ps.region rfl ?_
  refine Rs.assign (p := .lit _) rfl rfl ?_
  refine Rs.nil ?_
  refine Ps.thn ?_
  refine Ps.seq ?_
  refine Ps.seq ?_
  refine Ps.region rfl ?_
  refine Rs.move rfl rfl ?_
  first | refine Rs.lenD rfl rfl rfl rfl ?_ | refine Rs.lenO rfl rfl rfl rfl ?_ | refine Rs.lenI rfl rfl rfl rfl ?_ | refine Rs.lenA rfl rfl rfl rfl (by assumption) ?_ | refine Rs.lenS rfl rfl rfl rfl (by assumption) ?_
  refine Rs.move (p := .lit _) rfl rfl ?_
  refine Rs.nil ?_
  refine Ps.thn ?_
  refine Ps.block ?_
  -- loop 1 writes [4, 5, 8, 9, 10, 11, 12, 13, 14, 15, 16, 17, 18]
  refine Ps.loop (J := Nat) ⟨fun j => j ≤ ps.length ∧ (ps.any fun q => q.1 == n) = ((ps.drop j).any fun q => q.1 == n), fun j => [(8, i64P j)], fun _ => (g, 0, .blk 1 [u32P n] true) :: M0, fun j => ps.length - j⟩ [4, 5, 8, 9, 10, 11, 12, 13, 14, 15, 16, 17, 18] [(7, _), (6, _), (0, _), (1, _)] 0 rfl ⟨Nat.zero_le _, rfl⟩ ⟨rfl, trivial⟩ (List.Sublist.refl _) (fun j hj => ?_)
  obtain ⟨hj, hjc⟩ : j ≤ ps.length ∧ (ps.any fun q => q.1 == n) = ((ps.drop j).any fun q => q.1 == n) := hj
  dsimp only [List.cons_append, List.nil_append]
  refine Ps.seq ?_
  refine Ps.region rfl ?_
  refine Rs.binB rfl rfl rfl rfl rfl rfl ?_
  refine Rs.nil ?_
  refine Ps.thn ?_
  refine Ps.seq ?_
  refine Ps.if rfl (fun hc => ?_) (fun hc => ?_)
  · try replace hc := dc hc
    refine Ps.skip ?_
    refine Ps.thn ?_
    refine Ps.seq ?_
    refine Ps.block ?_
    refine Ps.seq ?_
    refine Ps.region rfl ?_
    refine Rs.move rfl rfl ?_
    refine Rs.assign rfl rfl ?_
    refine Rs.nil ?_
    refine Ps.thn ?_
    refine Ps.seq ?_
    have hlt : j < ps.length := by simp at hc; omega
    obtain ⟨x, hx⟩ := at_lt hlt
    rw [drop_at hx, List.any_cons] at hjc
    refine Ps.region rfl ?_
    refine Rs.move rfl rfl ?_
    refine Rs.move rfl rfl ?_
    refine Rs.move rfl rfl ?_
    first | refine Rs.indexD (lc := [_, _]) rfl rfl rfl rfl rfl rfl (map_at hx) rfl ?_ | refine Rs.indexS (lc := [_, _]) rfl rfl rfl rfl rfl (by assumption) rfl (map_at hx) rfl ?_
    first | refine Rs.loadR (p := .agg [_, _]) rfl rfl rfl rfl ?_ | refine Rs.loadP (p := .agg [_, _]) 0 rfl rfl rfl rfl rfl ?_ | refine Rs.loadP (p := .agg [_, _]) 1 rfl rfl rfl rfl rfl ?_ | refine Rs.loadP (p := .agg [_, _]) 2 rfl rfl rfl rfl rfl ?_ | refine Rs.loadP (p := .agg [_, _]) 3 rfl rfl rfl rfl rfl ?_
    refine Rs.callM rfl rfl rfl rfl rfl (tch1_ok x g n M0) (fun p16 M' hp => ?_)
    obtain ⟨rfl, rfl⟩ := hp
    refine Rs.nil ?_
    refine Ps.thn ?_
    refine Ps.if rfl (fun hc => ?_) (fun hc => ?_)
    · try replace hc := dc hc
      refine Ps.seq ?_
      refine Ps.region rfl ?_
      refine Rs.move rfl rfl ?_
      refine Rs.assign rfl rfl ?_
      refine Rs.nil ?_
      refine Ps.thn ?_
      refine Ps.ret ?_
      refine Ps.blk_ret ?_
      refine Ps.thn_ret ?_
      refine Ps.rnd_ret ?_
      refine Ps.blk_ret ?_
      refine Ps.thn_ret ?_
      -- leaf 1 (ret)
      first
        | (refine Ps.finM0 (l := [_]) rfl (by refine ResR.tmp rfl ?_; exact ResR.nil) ⟨rfl, (j : Int), rfl, ?_⟩
           rw [hjc]
           simp [hc]
           done)
        | (refine Ps.finM0 (l := [_]) rfl (by refine ResR.tmp rfl ?_; exact ResR.nil) ⟨rfl, -1, rfl, ?_⟩
           rw [hjc, List.drop_eq_nil_of_le (by simp at hc; omega)]
           rfl)
    · try replace hc := dc hc
      refine Ps.skip ?_
      refine Ps.blk ?_
      refine Ps.thn ?_
      refine Ps.region rfl ?_
      refine Rs.add rfl rfl rfl (by first | exact W_i64s (by omega) | exact W_i64 (by omega) (by omega) | rfl) ?_
      refine Rs.move rfl rfl ?_
      refine Rs.nil ?_
      -- leaf 2 (round1)
      refine Ps.round (j + 1) ⟨hlt, ?_⟩ (by show ps.length - (j + 1) < ps.length - j; omega) ⟨rfl, trivial⟩ (by repeat' first | exact HasL.nil | refine HasL.cons rfl ?_) (List.Sublist.refl _)
      have hxn : (x.1 == n) = false := by simpa using hc
      rw [hjc, hxn, Bool.false_or]
  · try replace hc := dc hc
    refine Ps.exit ?_
    refine Ps.thn_exit ?_
    refine Ps.rnd_exit ?_
    refine Ps.blk_here ?_
    refine Ps.thn ?_
    refine Ps.seq ?_
    refine Ps.region rfl ?_
    refine Rs.assign (p := .lit _) rfl rfl ?_
    refine Rs.nil ?_
    refine Ps.thn ?_
    refine Ps.ret ?_
    -- leaf 3 (ret)
    first
      | (refine Ps.finM0 (l := [_]) rfl (by refine ResR.tmp rfl ?_; exact ResR.nil) ⟨rfl, (j : Int), rfl, ?_⟩
         rw [hjc]
         simp [hc]
         done)
      | (refine Ps.finM0 (l := [_]) rfl (by refine ResR.tmp rfl ?_; exact ResR.nil) ⟨rfl, -1, rfl, ?_⟩
         rw [hjc, List.drop_eq_nil_of_le (by simp at hc; omega)]
         rfl)
theorem conPart_ok (ps : List (Int × Int)) (pp : PV) (hpp : IsSl 2 (ps.map partP) pp) (hl : ps.length ≤ 8) (g : Nat) (n : Int) (M0 : Mem) : Fm0 (cfg spc) 30 [pp, .clo 31 [] [.ptr g 0 0 0]] ((g, 0, .blk 1 [u32P n] true) :: M0) (fun r M' => M' = (g, 0, .blk 1 [u32P n] true) :: M0 ∧ r = boolP (ps.any fun q => q.1 == n)) := by
  refine Fm0.go Tryz.func30 (L := [(0, _), (1, _)]) rfl rfl rfl rfl ?_
  refine Ps.seq ?_
  refine Ps.region rfl ?_
  refine Rs.assign (p := .lit _) rfl rfl ?_
  refine Rs.nil ?_
  refine Ps.thn ?_
  refine Ps.seq ?_
  refine Ps.region rfl ?_
  refine Rs.move rfl rfl ?_
  refine Rs.move rfl rfl ?_
  refine Rs.callM rfl rfl rfl rfl rfl (idxPart_ok ps _ hpp hl g n M0) (fun p7 M' hp => ?_)
  obtain ⟨rfl, i7, rfl, hi7⟩ := hp
  refine Rs.binB rfl rfl rfl rfl rfl rfl ?_
  refine Rs.assign rfl rfl ?_
  refine Rs.nil ?_
  refine Ps.thn ?_
  refine Ps.ret ?_
  -- leaf 1 (ret)
  refine Ps.finM0 (l := [_]) rfl (by refine ResR.tmp rfl ?_; exact ResR.nil) ⟨rfl, ?_⟩
  rw [← hi7]
  rfl
theorem touches16_ok (k f t : Int) (nm : ByteArray) (ps : List (Int × Int)) (pp : PV) (ss : List Int) (cp : PV) (ce : Int) (hr : RawOk k f t ps) (hpp : IsSl 2 (ps.map partP) pp) (hcp : IsSl 1 (ss.map i32P) cp) (u : Bool) (n : Int) : Fn (cfg spc) 18 [.agg [i64P k, u32P f, u32P t, strP nm, pp, cp, i32P ce, i64P 0], boolP u, u32P n] (· = boolP (touchS k f t ps u n)) := by
  have hd1 := hpp.deep
  have hd2 := hcp.deep
  have hpl := hr.len
  refine Fn.go Tryz.func18 (L := [(0, _), (1, _), (2, _)]) rfl rfl rfl (by simp [deepL, deepB]; exact ⟨hd1, hd2⟩) rfl ?_
  refine Ps.seq ?_
  refine Ps.region rfl ?_
  refine Rs.box (l := [i64P k, u32P f, u32P t, strP nm, pp, cp, i32P ce, i64P 0]) rfl rfl rfl (by simp [deepB, deepL]; exact ⟨hd1, hd2⟩) rfl ?_
  refine Rs.boxO (c := 1) rfl rfl rfl rfl (fun g5 => ?_)
  refine Rs.assign (p := .lit _) rfl rfl ?_
  refine Rs.nil ?_
  refine Ps.thn ?_
  refine Ps.seq ?_
  refine Ps.region rfl ?_
  first | refine Rs.fieldAddrD rfl rfl rfl rfl ?_ | refine Rs.fieldAddrP rfl rfl rfl rfl ?_
  refine Rs.loadD rfl rfl rfl rfl ?_
  refine Rs.binB rfl rfl rfl rfl rfl rfl ?_
  refine Rs.move rfl rfl ?_
  refine Rs.guard1 (w' := true) rfl rfl rfl (fun hg => ?_) (fun hg => ?_)
  · try replace hg := dc hg
    first | refine Rs.fieldAddrD rfl rfl rfl rfl ?_ | refine Rs.fieldAddrP rfl rfl rfl rfl ?_
    refine Rs.guardT rfl ?_
    refine Rs.loadD rfl rfl rfl rfl ?_
    refine Rs.guardT rfl ?_
    refine Rs.binB rfl rfl rfl rfl rfl rfl ?_
    refine Rs.pickF (p := .lit _) rfl rfl rfl rfl ?_
    refine Rs.assign rfl rfl ?_
    refine Rs.nil ?_
    refine Ps.thn ?_
    refine Ps.seq ?_
    refine Ps.seq ?_
    refine Ps.region rfl ?_
    refine Rs.move rfl rfl ?_
    refine Rs.move rfl rfl ?_
    refine Rs.binB rfl rfl rfl rfl rfl rfl ?_
    refine Rs.nil ?_
    refine Ps.thn ?_
    refine Ps.if rfl (fun hc => ?_) (fun hc => ?_)
    · try replace hc := dc hc
      refine Ps.seq ?_
      refine Ps.region rfl ?_
      refine Rs.assign (p := .lit _) rfl rfl ?_
      refine Rs.nil ?_
      refine Ps.thn ?_
      refine Ps.ret ?_
      refine Ps.thn_ret ?_
      -- leaf 1 (ret)
      refine Ps.finP (l := [_]) rfl (by refine ResR.tmp rfl ?_; exact ResR.nil) (by first | rfl | simp [plainP, plainC, cp_lit, cp_dsl, *]) rfl ?_
      show boolP _ = boolP _
      unfold touchS
      congr 2
      first
        | (simp_all; done)
        | (cases u <;> simp_all; done)
        | (cases u <;> by_cases hfn : f = n <;> simp_all; done)
        | (cases u <;> by_cases hfn : f = n <;> by_cases htn : t = n <;> by_cases hk4 : k = 4 <;> by_cases hk1 : k = 1 <;> by_cases hk7 : k = 7 <;> simp_all; done)
        | (have eu : (k == 6) = u := eq_of_beq ‹((k == 6) == u) = true›
           subst eu
           have e7 : (k == 7) = false := by simpa using ‹k ≠ 7›
           have e5 : (k == 5) = false := by simpa using ‹k ≠ 5›
           have e1 : (k != 1) = true := by simpa using ‹k ≠ 1›
           have e4 : (k != 4) = true := by simpa using ‹k ≠ 4›
           have e4' : (k == 4) = false := by simpa using ‹k ≠ 4›
           have ef : (f == n) = false := by simpa using ‹f ≠ n›
           rw [e7, e5, e1, e4, e4', ef]
           cases t == n <;> simp
           done)
        | (trace_state; sorry)
    · try replace hc := dc hc
      refine Ps.skip ?_
      refine Ps.thn ?_
      refine Ps.seq ?_
      refine Ps.seq ?_
      refine Ps.region rfl ?_
      first | refine Rs.fieldAddrD rfl rfl rfl rfl ?_ | refine Rs.fieldAddrP rfl rfl rfl rfl ?_
      refine Rs.loadD rfl rfl rfl rfl ?_
      refine Rs.nil ?_
      refine Ps.thn ?_
      refine Ps.block ?_
      refine Ps.seq ?_
      refine Ps.region rfl ?_
      refine Rs.binB rfl rfl rfl rfl rfl rfl ?_
      refine Rs.assign rfl rfl ?_
      refine Rs.nil ?_
      refine Ps.thn ?_
      refine Ps.if rfl (fun hc => ?_) (fun hc => ?_)
      · try replace hc := dc hc
        refine Ps.seq ?_
        refine Ps.region rfl ?_
        refine Rs.assign (p := .lit _) rfl rfl ?_
        refine Rs.nil ?_
        refine Ps.thn ?_
        refine Ps.ret ?_
        refine Ps.blk_ret ?_
        refine Ps.thn_ret ?_
        -- leaf 2 (ret)
        refine Ps.finP (l := [_]) rfl (by refine ResR.tmp rfl ?_; exact ResR.nil) (by first | rfl | simp [plainP, plainC, cp_lit, cp_dsl, *]) rfl ?_
        show boolP _ = boolP _
        unfold touchS
        congr 2
        first
          | (simp_all; done)
          | (cases u <;> simp_all; done)
          | (cases u <;> by_cases hfn : f = n <;> simp_all; done)
          | (cases u <;> by_cases hfn : f = n <;> by_cases htn : t = n <;> by_cases hk4 : k = 4 <;> by_cases hk1 : k = 1 <;> by_cases hk7 : k = 7 <;> simp_all; done)
          | (have eu : (k == 6) = u := eq_of_beq ‹((k == 6) == u) = true›
             subst eu
             have e7 : (k == 7) = false := by simpa using ‹k ≠ 7›
             have e5 : (k == 5) = false := by simpa using ‹k ≠ 5›
             have e1 : (k != 1) = true := by simpa using ‹k ≠ 1›
             have e4 : (k != 4) = true := by simpa using ‹k ≠ 4›
             have e4' : (k == 4) = false := by simpa using ‹k ≠ 4›
             have ef : (f == n) = false := by simpa using ‹f ≠ n›
             rw [e7, e5, e1, e4, e4', ef]
             cases t == n <;> simp
             done)
          | (trace_state; sorry)
      · try replace hc := dc hc
        refine Ps.seq ?_
        refine Ps.region rfl ?_
        refine Rs.binB rfl rfl rfl rfl rfl rfl ?_
        refine Rs.assign rfl rfl ?_
        refine Rs.nil ?_
        refine Ps.thn ?_
        refine Ps.if rfl (fun hc => ?_) (fun hc => ?_)
        · try replace hc := dc hc
          refine Ps.seq ?_
          refine Ps.region rfl ?_
          first | refine Rs.fieldAddrD rfl rfl rfl rfl ?_ | refine Rs.fieldAddrP rfl rfl rfl rfl ?_
          refine Rs.loadD rfl rfl rfl rfl ?_
          first | refine Rs.loadR rfl rfl rfl rfl ?_ | refine Rs.loadP 0 rfl rfl rfl rfl rfl ?_ | refine Rs.loadP 1 rfl rfl rfl rfl rfl ?_ | refine Rs.loadP 2 rfl rfl rfl rfl rfl ?_ | refine Rs.loadP 3 rfl rfl rfl rfl rfl ?_
          refine Rs.binB rfl rfl rfl rfl rfl rfl ?_
          refine Rs.assign rfl rfl ?_
          refine Rs.nil ?_
          refine Ps.thn ?_
          refine Ps.ret ?_
          refine Ps.blk_ret ?_
          refine Ps.thn_ret ?_
          -- leaf 3 (ret)
          refine Ps.finP (l := [_]) rfl (by refine ResR.tmp rfl ?_; exact ResR.nil) (by first | rfl | simp [plainP, plainC, cp_lit, cp_dsl, *]) rfl ?_
          show boolP _ = boolP _
          unfold touchS
          congr 2
          first
            | (simp_all; done)
            | (cases u <;> simp_all; done)
            | (cases u <;> by_cases hfn : f = n <;> simp_all; done)
            | (cases u <;> by_cases hfn : f = n <;> by_cases htn : t = n <;> by_cases hk4 : k = 4 <;> by_cases hk1 : k = 1 <;> by_cases hk7 : k = 7 <;> simp_all; done)
            | (have eu : (k == 6) = u := eq_of_beq ‹((k == 6) == u) = true›
               subst eu
               have e7 : (k == 7) = false := by simpa using ‹k ≠ 7›
               have e5 : (k == 5) = false := by simpa using ‹k ≠ 5›
               have e1 : (k != 1) = true := by simpa using ‹k ≠ 1›
               have e4 : (k != 4) = true := by simpa using ‹k ≠ 4›
               have e4' : (k == 4) = false := by simpa using ‹k ≠ 4›
               have ef : (f == n) = false := by simpa using ‹f ≠ n›
               rw [e7, e5, e1, e4, e4', ef]
               cases t == n <;> simp
               done)
            | (trace_state; sorry)
        · try replace hc := dc hc
          refine Ps.seq ?_
          refine Ps.region rfl ?_
          refine Rs.binB rfl rfl rfl rfl rfl rfl ?_
          refine Rs.assign rfl rfl ?_
          refine Rs.nil ?_
          refine Ps.thn ?_
          refine Ps.if rfl (fun hc => ?_) (fun hc => ?_)
          · try replace hc := dc hc
            refine Ps.seq ?_
            refine Ps.region rfl ?_
            first | refine Rs.fieldAddrD rfl rfl rfl rfl ?_ | refine Rs.fieldAddrP rfl rfl rfl rfl ?_
            refine Rs.loadD rfl rfl rfl rfl ?_
            first | refine Rs.loadR rfl rfl rfl rfl ?_ | refine Rs.loadP 0 rfl rfl rfl rfl rfl ?_ | refine Rs.loadP 1 rfl rfl rfl rfl rfl ?_ | refine Rs.loadP 2 rfl rfl rfl rfl rfl ?_ | refine Rs.loadP 3 rfl rfl rfl rfl rfl ?_
            refine Rs.binB rfl rfl rfl rfl rfl rfl ?_
            refine Rs.move rfl rfl ?_
            refine Rs.guard1 (w' := true) rfl rfl rfl (fun hg => ?_) (fun hg => ?_)
            · try replace hg := dc hg
              first | refine Rs.fieldAddrD rfl rfl rfl rfl ?_ | refine Rs.fieldAddrP rfl rfl rfl rfl ?_
              refine Rs.guardT rfl ?_
              refine Rs.loadD rfl rfl rfl rfl ?_
              refine Rs.guardT rfl ?_
              refine Rs.makeFunc rfl rfl rfl ?_
              refine Rs.guardT rfl ?_
              refine Rs.callM rfl rfl rfl rfl rfl (conPart_ok ps _ hpp hpl _ n []) (fun p39 M' hp => ?_)
              obtain ⟨rfl, rfl⟩ := hp
              refine Rs.pickF (p := .lit _) rfl rfl rfl rfl ?_
              refine Rs.assign rfl rfl ?_
              refine Rs.nil ?_
              refine Ps.thn ?_
              refine Ps.ret ?_
              refine Ps.blk_ret ?_
              refine Ps.thn_ret ?_
              -- leaf 4 (ret)
              refine Ps.finP (l := [_]) rfl (by refine ResR.tmp rfl ?_; exact ResR.nil) (by first | rfl | simp [plainP, plainC, cp_lit, cp_dsl, *]) rfl ?_
              show boolP _ = boolP _
              unfold touchS
              congr 2
              first
                | (simp_all; done)
                | (cases u <;> simp_all; done)
                | (cases u <;> by_cases hfn : f = n <;> simp_all; done)
                | (cases u <;> by_cases hfn : f = n <;> by_cases htn : t = n <;> by_cases hk4 : k = 4 <;> by_cases hk1 : k = 1 <;> by_cases hk7 : k = 7 <;> simp_all; done)
                | (have eu : (k == 6) = u := eq_of_beq ‹((k == 6) == u) = true›
                   subst eu
                   have e7 : (k == 7) = false := by simpa using ‹k ≠ 7›
                   have e5 : (k == 5) = false := by simpa using ‹k ≠ 5›
                   have e1 : (k != 1) = true := by simpa using ‹k ≠ 1›
                   have e4 : (k != 4) = true := by simpa using ‹k ≠ 4›
                   have e4' : (k == 4) = false := by simpa using ‹k ≠ 4›
                   have ef : (f == n) = false := by simpa using ‹f ≠ n›
                   rw [e7, e5, e1, e4, e4', ef]
                   cases t == n <;> simp
                   done)
                | (trace_state; sorry)
            · try replace hg := dc hg
              refine Rs.guardF1 rfl rfl rfl ?_
              refine Rs.guardF1 rfl rfl rfl ?_
              refine Rs.guardF1 rfl rfl rfl ?_
              refine Rs.pickT (p := .lit _) rfl rfl rfl rfl ?_
              refine Rs.assign rfl rfl ?_
              refine Rs.nil ?_
              refine Ps.thn ?_
              refine Ps.ret ?_
              refine Ps.blk_ret ?_
              refine Ps.thn_ret ?_
              -- leaf 5 (ret)
              refine Ps.finP (l := [_]) rfl (by refine ResR.tmp rfl ?_; exact ResR.nil) (by first | rfl | simp [plainP, plainC, cp_lit, cp_dsl, *]) rfl ?_
              show boolP _ = boolP _
              unfold touchS
              congr 2
              first
                | (simp_all; done)
                | (cases u <;> simp_all; done)
                | (cases u <;> by_cases hfn : f = n <;> simp_all; done)
                | (cases u <;> by_cases hfn : f = n <;> by_cases htn : t = n <;> by_cases hk4 : k = 4 <;> by_cases hk1 : k = 1 <;> by_cases hk7 : k = 7 <;> simp_all; done)
                | (have eu : (k == 6) = u := eq_of_beq ‹((k == 6) == u) = true›
                   subst eu
                   have e7 : (k == 7) = false := by simpa using ‹k ≠ 7›
                   have e5 : (k == 5) = false := by simpa using ‹k ≠ 5›
                   have e1 : (k != 1) = true := by simpa using ‹k ≠ 1›
                   have e4 : (k != 4) = true := by simpa using ‹k ≠ 4›
                   have e4' : (k == 4) = false := by simpa using ‹k ≠ 4›
                   have ef : (f == n) = false := by simpa using ‹f ≠ n›
                   rw [e7, e5, e1, e4, e4', ef]
                   cases t == n <;> simp
                   done)
                | (trace_state; sorry)
          · try replace hc := dc hc
            refine Ps.skip ?_
            refine Ps.blk ?_
            refine Ps.thn ?_
            refine Ps.seq ?_
            refine Ps.region rfl ?_
            first | refine Rs.fieldAddrD rfl rfl rfl rfl ?_ | refine Rs.fieldAddrP rfl rfl rfl rfl ?_
            refine Rs.loadD rfl rfl rfl rfl ?_
            first | refine Rs.loadR rfl rfl rfl rfl ?_ | refine Rs.loadP 0 rfl rfl rfl rfl rfl ?_ | refine Rs.loadP 1 rfl rfl rfl rfl rfl ?_ | refine Rs.loadP 2 rfl rfl rfl rfl rfl ?_ | refine Rs.loadP 3 rfl rfl rfl rfl rfl ?_
            refine Rs.binB rfl rfl rfl rfl rfl rfl ?_
            refine Rs.move rfl rfl ?_
            refine Rs.guard1 (w' := true) rfl rfl rfl (fun hg => ?_) (fun hg => ?_)
            · try replace hg := dc hg
              first | refine Rs.fieldAddrD rfl rfl rfl rfl ?_ | refine Rs.fieldAddrP rfl rfl rfl rfl ?_
              refine Rs.guardT rfl ?_
              refine Rs.loadD rfl rfl rfl rfl ?_
              refine Rs.guardT rfl ?_
              first | refine Rs.loadR rfl rfl rfl rfl ?_ | refine Rs.loadP 0 rfl rfl rfl rfl rfl ?_ | refine Rs.loadP 1 rfl rfl rfl rfl rfl ?_ | refine Rs.loadP 2 rfl rfl rfl rfl rfl ?_ | refine Rs.loadP 3 rfl rfl rfl rfl rfl ?_
              refine Rs.guardT rfl ?_
              refine Rs.binB rfl rfl rfl rfl rfl rfl ?_
              refine Rs.pickF (p := .lit _) rfl rfl rfl rfl ?_
              refine Rs.assign rfl rfl ?_
              refine Rs.nil ?_
              refine Ps.thn ?_
              refine Ps.ret ?_
              -- leaf 6 (ret)
              refine Ps.finP (l := [_]) rfl (by refine ResR.tmp rfl ?_; exact ResR.nil) (by first | rfl | simp [plainP, plainC, cp_lit, cp_dsl, *]) rfl ?_
              show boolP _ = boolP _
              unfold touchS
              congr 2
              first
                | (simp_all; done)
                | (cases u <;> simp_all; done)
                | (cases u <;> by_cases hfn : f = n <;> simp_all; done)
                | (cases u <;> by_cases hfn : f = n <;> by_cases htn : t = n <;> by_cases hk4 : k = 4 <;> by_cases hk1 : k = 1 <;> by_cases hk7 : k = 7 <;> simp_all; done)
                | (have eu : (k == 6) = u := eq_of_beq ‹((k == 6) == u) = true›
                   subst eu
                   have e7 : (k == 7) = false := by simpa using ‹k ≠ 7›
                   have e5 : (k == 5) = false := by simpa using ‹k ≠ 5›
                   have e1 : (k != 1) = true := by simpa using ‹k ≠ 1›
                   have e4 : (k != 4) = true := by simpa using ‹k ≠ 4›
                   have e4' : (k == 4) = false := by simpa using ‹k ≠ 4›
                   have ef : (f == n) = false := by simpa using ‹f ≠ n›
                   rw [e7, e5, e1, e4, e4', ef]
                   cases t == n <;> simp
                   done)
                | (trace_state; sorry)
            · try replace hg := dc hg
              refine Rs.guardF1 rfl rfl rfl ?_
              refine Rs.guardF1 rfl rfl rfl ?_
              refine Rs.guardF1 rfl rfl rfl ?_
              refine Rs.pickT (p := .lit _) rfl rfl rfl rfl ?_
              refine Rs.assign rfl rfl ?_
              refine Rs.nil ?_
              refine Ps.thn ?_
              refine Ps.ret ?_
              -- leaf 7 (ret)
              refine Ps.finP (l := [_]) rfl (by refine ResR.tmp rfl ?_; exact ResR.nil) (by first | rfl | simp [plainP, plainC, cp_lit, cp_dsl, *]) rfl ?_
              show boolP _ = boolP _
              unfold touchS
              congr 2
              first
                | (simp_all; done)
                | (cases u <;> simp_all; done)
                | (cases u <;> by_cases hfn : f = n <;> simp_all; done)
                | (cases u <;> by_cases hfn : f = n <;> by_cases htn : t = n <;> by_cases hk4 : k = 4 <;> by_cases hk1 : k = 1 <;> by_cases hk7 : k = 7 <;> simp_all; done)
                | (have eu : (k == 6) = u := eq_of_beq ‹((k == 6) == u) = true›
                   subst eu
                   have e7 : (k == 7) = false := by simpa using ‹k ≠ 7›
                   have e5 : (k == 5) = false := by simpa using ‹k ≠ 5›
                   have e1 : (k != 1) = true := by simpa using ‹k ≠ 1›
                   have e4 : (k != 4) = true := by simpa using ‹k ≠ 4›
                   have e4' : (k == 4) = false := by simpa using ‹k ≠ 4›
                   have ef : (f == n) = false := by simpa using ‹f ≠ n›
                   rw [e7, e5, e1, e4, e4', ef]
                   cases t == n <;> simp
                   done)
                | (trace_state; sorry)
  · try replace hg := dc hg
    refine Rs.guardF1 rfl rfl rfl ?_
    refine Rs.guardF1 rfl rfl rfl ?_
    refine Rs.pickT (p := .lit _) rfl rfl rfl rfl ?_
    refine Rs.assign rfl rfl ?_
    refine Rs.nil ?_
    refine Ps.thn ?_
    refine Ps.seq ?_
    refine Ps.seq ?_
    refine Ps.region rfl ?_
    refine Rs.move rfl rfl ?_
    refine Rs.move rfl rfl ?_
    refine Rs.binB rfl rfl rfl rfl rfl rfl ?_
    refine Rs.nil ?_
    refine Ps.thn ?_
    refine Ps.if rfl (fun hc => ?_) (fun hc => ?_)
    · try replace hc := dc hc
      refine Ps.seq ?_
      refine Ps.region rfl ?_
      refine Rs.assign (p := .lit _) rfl rfl ?_
      refine Rs.nil ?_
      refine Ps.thn ?_
      refine Ps.ret ?_
      refine Ps.thn_ret ?_
      -- leaf 8 (ret)
      refine Ps.finP (l := [_]) rfl (by refine ResR.tmp rfl ?_; exact ResR.nil) (by first | rfl | simp [plainP, plainC, cp_lit, cp_dsl, *]) rfl ?_
      show boolP _ = boolP _
      unfold touchS
      congr 2
      first
        | (simp_all; done)
        | (cases u <;> simp_all; done)
        | (cases u <;> by_cases hfn : f = n <;> simp_all; done)
        | (cases u <;> by_cases hfn : f = n <;> by_cases htn : t = n <;> by_cases hk4 : k = 4 <;> by_cases hk1 : k = 1 <;> by_cases hk7 : k = 7 <;> simp_all; done)
        | (have eu : (k == 6) = u := eq_of_beq ‹((k == 6) == u) = true›
           subst eu
           have e7 : (k == 7) = false := by simpa using ‹k ≠ 7›
           have e5 : (k == 5) = false := by simpa using ‹k ≠ 5›
           have e1 : (k != 1) = true := by simpa using ‹k ≠ 1›
           have e4 : (k != 4) = true := by simpa using ‹k ≠ 4›
           have e4' : (k == 4) = false := by simpa using ‹k ≠ 4›
           have ef : (f == n) = false := by simpa using ‹f ≠ n›
           rw [e7, e5, e1, e4, e4', ef]
           cases t == n <;> simp
           done)
        | (trace_state; sorry)
    · try replace hc := dc hc
      refine Ps.skip ?_
      refine Ps.thn ?_
      refine Ps.seq ?_
      refine Ps.seq ?_
      refine Ps.region rfl ?_
      first | refine Rs.fieldAddrD rfl rfl rfl rfl ?_ | refine Rs.fieldAddrP rfl rfl rfl rfl ?_
      refine Rs.loadD rfl rfl rfl rfl ?_
      refine Rs.nil ?_
      refine Ps.thn ?_
      refine Ps.block ?_
      refine Ps.seq ?_
      refine Ps.region rfl ?_
      refine Rs.binB rfl rfl rfl rfl rfl rfl ?_
      refine Rs.assign rfl rfl ?_
      refine Rs.nil ?_
      refine Ps.thn ?_
      refine Ps.if rfl (fun hc => ?_) (fun hc => ?_)
      · try replace hc := dc hc
        refine Ps.seq ?_
        refine Ps.region rfl ?_
        refine Rs.assign (p := .lit _) rfl rfl ?_
        refine Rs.nil ?_
        refine Ps.thn ?_
        refine Ps.ret ?_
        refine Ps.blk_ret ?_
        refine Ps.thn_ret ?_
        -- leaf 9 (ret)
        refine Ps.finP (l := [_]) rfl (by refine ResR.tmp rfl ?_; exact ResR.nil) (by first | rfl | simp [plainP, plainC, cp_lit, cp_dsl, *]) rfl ?_
        show boolP _ = boolP _
        unfold touchS
        congr 2
        first
          | (simp_all; done)
          | (cases u <;> simp_all; done)
          | (cases u <;> by_cases hfn : f = n <;> simp_all; done)
          | (cases u <;> by_cases hfn : f = n <;> by_cases htn : t = n <;> by_cases hk4 : k = 4 <;> by_cases hk1 : k = 1 <;> by_cases hk7 : k = 7 <;> simp_all; done)
          | (have eu : (k == 6) = u := eq_of_beq ‹((k == 6) == u) = true›
             subst eu
             have e7 : (k == 7) = false := by simpa using ‹k ≠ 7›
             have e5 : (k == 5) = false := by simpa using ‹k ≠ 5›
             have e1 : (k != 1) = true := by simpa using ‹k ≠ 1›
             have e4 : (k != 4) = true := by simpa using ‹k ≠ 4›
             have e4' : (k == 4) = false := by simpa using ‹k ≠ 4›
             have ef : (f == n) = false := by simpa using ‹f ≠ n›
             rw [e7, e5, e1, e4, e4', ef]
             cases t == n <;> simp
             done)
          | (trace_state; sorry)
      · try replace hc := dc hc
        refine Ps.seq ?_
        refine Ps.region rfl ?_
        refine Rs.binB rfl rfl rfl rfl rfl rfl ?_
        refine Rs.assign rfl rfl ?_
        refine Rs.nil ?_
        refine Ps.thn ?_
        refine Ps.if rfl (fun hc => ?_) (fun hc => ?_)
        · try replace hc := dc hc
          refine Ps.seq ?_
          refine Ps.region rfl ?_
          first | refine Rs.fieldAddrD rfl rfl rfl rfl ?_ | refine Rs.fieldAddrP rfl rfl rfl rfl ?_
          refine Rs.loadD rfl rfl rfl rfl ?_
          first | refine Rs.loadR rfl rfl rfl rfl ?_ | refine Rs.loadP 0 rfl rfl rfl rfl rfl ?_ | refine Rs.loadP 1 rfl rfl rfl rfl rfl ?_ | refine Rs.loadP 2 rfl rfl rfl rfl rfl ?_ | refine Rs.loadP 3 rfl rfl rfl rfl rfl ?_
          refine Rs.binB rfl rfl rfl rfl rfl rfl ?_
          refine Rs.assign rfl rfl ?_
          refine Rs.nil ?_
          refine Ps.thn ?_
          refine Ps.ret ?_
          refine Ps.blk_ret ?_
          refine Ps.thn_ret ?_
          -- leaf 10 (ret)
          refine Ps.finP (l := [_]) rfl (by refine ResR.tmp rfl ?_; exact ResR.nil) (by first | rfl | simp [plainP, plainC, cp_lit, cp_dsl, *]) rfl ?_
          show boolP _ = boolP _
          unfold touchS
          congr 2
          first
            | (simp_all; done)
            | (cases u <;> simp_all; done)
            | (cases u <;> by_cases hfn : f = n <;> simp_all; done)
            | (cases u <;> by_cases hfn : f = n <;> by_cases htn : t = n <;> by_cases hk4 : k = 4 <;> by_cases hk1 : k = 1 <;> by_cases hk7 : k = 7 <;> simp_all; done)
            | (have eu : (k == 6) = u := eq_of_beq ‹((k == 6) == u) = true›
               subst eu
               have e7 : (k == 7) = false := by simpa using ‹k ≠ 7›
               have e5 : (k == 5) = false := by simpa using ‹k ≠ 5›
               have e1 : (k != 1) = true := by simpa using ‹k ≠ 1›
               have e4 : (k != 4) = true := by simpa using ‹k ≠ 4›
               have e4' : (k == 4) = false := by simpa using ‹k ≠ 4›
               have ef : (f == n) = false := by simpa using ‹f ≠ n›
               rw [e7, e5, e1, e4, e4', ef]
               cases t == n <;> simp
               done)
            | (trace_state; sorry)
        · try replace hc := dc hc
          refine Ps.seq ?_
          refine Ps.region rfl ?_
          refine Rs.binB rfl rfl rfl rfl rfl rfl ?_
          refine Rs.assign rfl rfl ?_
          refine Rs.nil ?_
          refine Ps.thn ?_
          refine Ps.if rfl (fun hc => ?_) (fun hc => ?_)
          · try replace hc := dc hc
            refine Ps.seq ?_
            refine Ps.region rfl ?_
            first | refine Rs.fieldAddrD rfl rfl rfl rfl ?_ | refine Rs.fieldAddrP rfl rfl rfl rfl ?_
            refine Rs.loadD rfl rfl rfl rfl ?_
            first | refine Rs.loadR rfl rfl rfl rfl ?_ | refine Rs.loadP 0 rfl rfl rfl rfl rfl ?_ | refine Rs.loadP 1 rfl rfl rfl rfl rfl ?_ | refine Rs.loadP 2 rfl rfl rfl rfl rfl ?_ | refine Rs.loadP 3 rfl rfl rfl rfl rfl ?_
            refine Rs.binB rfl rfl rfl rfl rfl rfl ?_
            refine Rs.move rfl rfl ?_
            refine Rs.guard1 (w' := true) rfl rfl rfl (fun hg => ?_) (fun hg => ?_)
            · try replace hg := dc hg
              first | refine Rs.fieldAddrD rfl rfl rfl rfl ?_ | refine Rs.fieldAddrP rfl rfl rfl rfl ?_
              refine Rs.guardT rfl ?_
              refine Rs.loadD rfl rfl rfl rfl ?_
              refine Rs.guardT rfl ?_
              refine Rs.makeFunc rfl rfl rfl ?_
              refine Rs.guardT rfl ?_
              refine Rs.callM rfl rfl rfl rfl rfl (conPart_ok ps _ hpp hpl _ n []) (fun p39 M' hp => ?_)
              obtain ⟨rfl, rfl⟩ := hp
              refine Rs.pickF (p := .lit _) rfl rfl rfl rfl ?_
              refine Rs.assign rfl rfl ?_
              refine Rs.nil ?_
              refine Ps.thn ?_
              refine Ps.ret ?_
              refine Ps.blk_ret ?_
              refine Ps.thn_ret ?_
              -- leaf 11 (ret)
              refine Ps.finP (l := [_]) rfl (by refine ResR.tmp rfl ?_; exact ResR.nil) (by first | rfl | simp [plainP, plainC, cp_lit, cp_dsl, *]) rfl ?_
              show boolP _ = boolP _
              unfold touchS
              congr 2
              first
                | (simp_all; done)
                | (cases u <;> simp_all; done)
                | (cases u <;> by_cases hfn : f = n <;> simp_all; done)
                | (cases u <;> by_cases hfn : f = n <;> by_cases htn : t = n <;> by_cases hk4 : k = 4 <;> by_cases hk1 : k = 1 <;> by_cases hk7 : k = 7 <;> simp_all; done)
                | (have eu : (k == 6) = u := eq_of_beq ‹((k == 6) == u) = true›
                   subst eu
                   have e7 : (k == 7) = false := by simpa using ‹k ≠ 7›
                   have e5 : (k == 5) = false := by simpa using ‹k ≠ 5›
                   have e1 : (k != 1) = true := by simpa using ‹k ≠ 1›
                   have e4 : (k != 4) = true := by simpa using ‹k ≠ 4›
                   have e4' : (k == 4) = false := by simpa using ‹k ≠ 4›
                   have ef : (f == n) = false := by simpa using ‹f ≠ n›
                   rw [e7, e5, e1, e4, e4', ef]
                   cases t == n <;> simp
                   done)
                | (trace_state; sorry)
            · try replace hg := dc hg
              refine Rs.guardF1 rfl rfl rfl ?_
              refine Rs.guardF1 rfl rfl rfl ?_
              refine Rs.guardF1 rfl rfl rfl ?_
              refine Rs.pickT (p := .lit _) rfl rfl rfl rfl ?_
              refine Rs.assign rfl rfl ?_
              refine Rs.nil ?_
              refine Ps.thn ?_
              refine Ps.ret ?_
              refine Ps.blk_ret ?_
              refine Ps.thn_ret ?_
              -- leaf 12 (ret)
              refine Ps.finP (l := [_]) rfl (by refine ResR.tmp rfl ?_; exact ResR.nil) (by first | rfl | simp [plainP, plainC, cp_lit, cp_dsl, *]) rfl ?_
              show boolP _ = boolP _
              unfold touchS
              congr 2
              first
                | (simp_all; done)
                | (cases u <;> simp_all; done)
                | (cases u <;> by_cases hfn : f = n <;> simp_all; done)
                | (cases u <;> by_cases hfn : f = n <;> by_cases htn : t = n <;> by_cases hk4 : k = 4 <;> by_cases hk1 : k = 1 <;> by_cases hk7 : k = 7 <;> simp_all; done)
                | (have eu : (k == 6) = u := eq_of_beq ‹((k == 6) == u) = true›
                   subst eu
                   have e7 : (k == 7) = false := by simpa using ‹k ≠ 7›
                   have e5 : (k == 5) = false := by simpa using ‹k ≠ 5›
                   have e1 : (k != 1) = true := by simpa using ‹k ≠ 1›
                   have e4 : (k != 4) = true := by simpa using ‹k ≠ 4›
                   have e4' : (k == 4) = false := by simpa using ‹k ≠ 4›
                   have ef : (f == n) = false := by simpa using ‹f ≠ n›
                   rw [e7, e5, e1, e4, e4', ef]
                   cases t == n <;> simp
                   done)
                | (trace_state; sorry)
          · try replace hc := dc hc
            refine Ps.skip ?_
            refine Ps.blk ?_
            refine Ps.thn ?_
            refine Ps.seq ?_
            refine Ps.region rfl ?_
            first | refine Rs.fieldAddrD rfl rfl rfl rfl ?_ | refine Rs.fieldAddrP rfl rfl rfl rfl ?_
            refine Rs.loadD rfl rfl rfl rfl ?_
            first | refine Rs.loadR rfl rfl rfl rfl ?_ | refine Rs.loadP 0 rfl rfl rfl rfl rfl ?_ | refine Rs.loadP 1 rfl rfl rfl rfl rfl ?_ | refine Rs.loadP 2 rfl rfl rfl rfl rfl ?_ | refine Rs.loadP 3 rfl rfl rfl rfl rfl ?_
            refine Rs.binB rfl rfl rfl rfl rfl rfl ?_
            refine Rs.move rfl rfl ?_
            refine Rs.guard1 (w' := true) rfl rfl rfl (fun hg => ?_) (fun hg => ?_)
            · try replace hg := dc hg
              first | refine Rs.fieldAddrD rfl rfl rfl rfl ?_ | refine Rs.fieldAddrP rfl rfl rfl rfl ?_
              refine Rs.guardT rfl ?_
              refine Rs.loadD rfl rfl rfl rfl ?_
              refine Rs.guardT rfl ?_
              first | refine Rs.loadR rfl rfl rfl rfl ?_ | refine Rs.loadP 0 rfl rfl rfl rfl rfl ?_ | refine Rs.loadP 1 rfl rfl rfl rfl rfl ?_ | refine Rs.loadP 2 rfl rfl rfl rfl rfl ?_ | refine Rs.loadP 3 rfl rfl rfl rfl rfl ?_
              refine Rs.guardT rfl ?_
              refine Rs.binB rfl rfl rfl rfl rfl rfl ?_
              refine Rs.pickF (p := .lit _) rfl rfl rfl rfl ?_
              refine Rs.assign rfl rfl ?_
              refine Rs.nil ?_
              refine Ps.thn ?_
              refine Ps.ret ?_
              -- leaf 13 (ret)
              refine Ps.finP (l := [_]) rfl (by refine ResR.tmp rfl ?_; exact ResR.nil) (by first | rfl | simp [plainP, plainC, cp_lit, cp_dsl, *]) rfl ?_
              show boolP _ = boolP _
              unfold touchS
              congr 2
              first
                | (simp_all; done)
                | (cases u <;> simp_all; done)
                | (cases u <;> by_cases hfn : f = n <;> simp_all; done)
                | (cases u <;> by_cases hfn : f = n <;> by_cases htn : t = n <;> by_cases hk4 : k = 4 <;> by_cases hk1 : k = 1 <;> by_cases hk7 : k = 7 <;> simp_all; done)
                | (have eu : (k == 6) = u := eq_of_beq ‹((k == 6) == u) = true›
                   subst eu
                   have e7 : (k == 7) = false := by simpa using ‹k ≠ 7›
                   have e5 : (k == 5) = false := by simpa using ‹k ≠ 5›
                   have e1 : (k != 1) = true := by simpa using ‹k ≠ 1›
                   have e4 : (k != 4) = true := by simpa using ‹k ≠ 4›
                   have e4' : (k == 4) = false := by simpa using ‹k ≠ 4›
                   have ef : (f == n) = false := by simpa using ‹f ≠ n›
                   rw [e7, e5, e1, e4, e4', ef]
                   cases t == n <;> simp
                   done)
                | (trace_state; sorry)
            · try replace hg := dc hg
              refine Rs.guardF1 rfl rfl rfl ?_
              refine Rs.guardF1 rfl rfl rfl ?_
              refine Rs.guardF1 rfl rfl rfl ?_
              refine Rs.pickT (p := .lit _) rfl rfl rfl rfl ?_
              refine Rs.assign rfl rfl ?_
              refine Rs.nil ?_
              refine Ps.thn ?_
              refine Ps.ret ?_
              -- leaf 14 (ret)
              refine Ps.finP (l := [_]) rfl (by refine ResR.tmp rfl ?_; exact ResR.nil) (by first | rfl | simp [plainP, plainC, cp_lit, cp_dsl, *]) rfl ?_
              show boolP _ = boolP _
              unfold touchS
              congr 2
              first
                | (simp_all; done)
                | (cases u <;> simp_all; done)
                | (cases u <;> by_cases hfn : f = n <;> simp_all; done)
                | (cases u <;> by_cases hfn : f = n <;> by_cases htn : t = n <;> by_cases hk4 : k = 4 <;> by_cases hk1 : k = 1 <;> by_cases hk7 : k = 7 <;> simp_all; done)
                | (have eu : (k == 6) = u := eq_of_beq ‹((k == 6) == u) = true›
                   subst eu
                   have e7 : (k == 7) = false := by simpa using ‹k ≠ 7›
                   have e5 : (k == 5) = false := by simpa using ‹k ≠ 5›
                   have e1 : (k != 1) = true := by simpa using ‹k ≠ 1›
                   have e4 : (k != 4) = true := by simpa using ‹k ≠ 4›
                   have e4' : (k == 4) = false := by simpa using ‹k ≠ 4›
                   have ef : (f == n) = false := by simpa using ‹f ≠ n›
                   rw [e7, e5, e1, e4, e4', ef]
                   cases t == n <;> simp
                   done)
                | (trace_state; sorry)
end Go.Proofs.YthabndifdgafbaaGreatDoor.RV.T
end
section
open Go Go.Proofs.YthabndifdgafbaaGreatDoor.RV Go.Proofs.YthabndifdgafbaaGreatDoor.XA.Awk Go.Proofs.YthabndifdgafbaaGreatDoor.RV.ChartMath Go.Proofs
namespace Go.Proofs.YthabndifdgafbaaGreatDoor.RV.T
set_option maxRecDepth 100000
set_option linter.unusedVariables false
set_option linter.unusedSimpArgs false
variable {spc : Sp}
theorem classTouches_ok (hA : Fn (cfg spc) 11 [] (· = boolP true)) (x : RO) (hw : RoOk x) (u : Bool) (n : Int) (hn : 0 ≤ n ∧ n ≤ 255) : Fn (cfg spc) 5 [roP x, boolP u, u8P n] (· = boolP true) := by
  obtain ⟨hx1, hx2, hx3, hx4, hx5, hx6, hx7, hx8, hx9⟩ := hw
  have hi1 : IsSl 2 (x.ps.map rpP) (.dsl 2 (x.ps.map rpP) none) := dsl_is
  have hi2 : IsSl 1 (x.long.map u8P) (.dsl 1 (x.long.map u8P) none) := dsl_is
  refine Fn.go Tryz.func5 (L := [(0, _), (1, _), (2, _)]) rfl rfl rfl (by first | rfl | (simp [deepL, deepB, *]; done) | (simp [deepL, deepB, *]; rfl)) rfl ?_
  refine Ps.seq ?_
  refine Ps.region rfl ?_
  refine Rs.box (l := [_, _, _, _, _, _, _]) rfl rfl rfl (by first | rfl | simp [deepB, deepL, *]) rfl ?_
  refine Rs.assign (p := .lit _) rfl rfl ?_
  refine Rs.nil ?_
  refine Ps.thn ?_
  refine Ps.seq ?_
  refine Ps.seq ?_
  refine Ps.region rfl ?_
  refine Rs.call0 rfl rfl rfl (hA) (fun p9 hp => ?_)
  obtain rfl := hp
  refine Rs.not rfl rfl ?_
  refine Rs.nil ?_
  refine Ps.thn ?_
  refine Ps.if rfl (fun hc => ?_) (fun hc => ?_)
  · try replace hc := dc hc
    refine Ps.seq ?_
    refine Ps.region rfl ?_
    refine Rs.assign (p := .lit _) rfl rfl ?_
    refine Rs.nil ?_
    refine Ps.thn ?_
    refine Ps.ret ?_
    refine Ps.thn_ret ?_
    -- leaf 1 (ret)
    first
      | (cases hc; done)
      | (refine Ps.finP (l := [_]) rfl (by refine ResR.tmp rfl ?_; exact ResR.nil) (by first | rfl | simp [plainP, plainC, cp_lit, cp_dsl, *]) rfl ?_
         show boolP _ = boolP _
         simp
         done)
      | (exfalso
         simp at hc
         done)
      | (trace_state; sorry)
  · try replace hc := dc hc
    refine Ps.skip ?_
    refine Ps.thn ?_
    refine Ps.seq ?_
    refine Ps.seq ?_
    refine Ps.region rfl ?_
    first | refine Rs.fieldAddrD (off' := 4) rfl rfl rfl rfl ?_ | refine Rs.fieldAddrP (off' := 4) rfl rfl rfl rfl ?_
    refine Rs.loadD rfl rfl rfl rfl ?_
    first | refine Rs.lenD rfl rfl rfl rfl ?_ | refine Rs.lenO rfl rfl rfl rfl ?_ | refine Rs.lenI rfl rfl rfl rfl ?_ | refine Rs.lenA rfl rfl rfl rfl (by assumption) ?_ | refine Rs.lenS rfl rfl rfl rfl (by assumption) ?_
    refine Rs.binB rfl rfl rfl rfl rfl rfl ?_
    refine Rs.move rfl rfl ?_
    refine Rs.guard1 (w' := true) rfl rfl rfl (fun hg => ?_) (fun hg => ?_)
    · try replace hg := dc hg
      first | refine Rs.fieldAddrD (off' := 6) rfl rfl rfl rfl ?_ | refine Rs.fieldAddrP (off' := 6) rfl rfl rfl rfl ?_
      refine Rs.guardT rfl ?_
      refine Rs.loadD rfl rfl rfl rfl ?_
      refine Rs.guardT rfl ?_
      first | refine Rs.lenD rfl rfl rfl rfl ?_ | refine Rs.lenO rfl rfl rfl rfl ?_ | refine Rs.lenI rfl rfl rfl rfl ?_ | refine Rs.lenA rfl rfl rfl rfl (by assumption) ?_ | refine Rs.lenS rfl rfl rfl rfl (by assumption) ?_
      refine Rs.guardT rfl ?_
      refine Rs.binB rfl rfl rfl rfl rfl rfl ?_
      refine Rs.pickF (p := .lit _) rfl rfl rfl rfl ?_
      refine Rs.nil ?_
      refine Ps.thn ?_
      refine Ps.if rfl (fun hc => ?_) (fun hc => ?_)
      · try replace hc := dc hc
        refine Ps.seq ?_
        refine Ps.region rfl ?_
        refine Rs.assign (p := .lit _) rfl rfl ?_
        refine Rs.nil ?_
        refine Ps.thn ?_
        refine Ps.ret ?_
        refine Ps.thn_ret ?_
        -- leaf 2 (ret)
        first
          | (cases hc; done)
          | (refine Ps.finP (l := [_]) rfl (by refine ResR.tmp rfl ?_; exact ResR.nil) (by first | rfl | simp [plainP, plainC, cp_lit, cp_dsl, *]) rfl ?_
             show boolP _ = boolP _
             simp
             done)
          | (exfalso
             simp at hc
             done)
          | (trace_state; sorry)
      · try replace hc := dc hc
        refine Ps.skip ?_
        refine Ps.thn ?_
        refine Ps.seq ?_
        refine Ps.region rfl ?_
        refine Rs.loadD (p := .agg [_, _, _, _, _, _, _]) rfl rfl rfl rfl ?_
        refine Rs.call0 rfl rfl rfl (raw_ok _ _ _ _ (by omega) (by omega) (by omega) (by omega) _ _ (by assumption) (by omega) (by assumption) _ (by omega) _ _ (by assumption) (by omega) (by assumption)) (fun p22 hp => ?_)
        obtain ⟨f, t, nm, ps, pp, ss, cp, ce, hr, hpp, hcp, rfl⟩ := hp
        have hs1 := hpp.scalar
        have hs2 := hcp.scalar
        have hd1 := hpp.deep
        have hd2 := hcp.deep
        refine Rs.alloc (z := .agg [_, _, _, _, _, _, _, _]) (c := 8) rfl rfl rfl (fun g7 => ?_)
        first | refine Rs.store0 (l' := [.agg [_, _, _, _, _, _, _, _]]) rfl rfl rfl (by first | rfl | exact storeB_ag rfl rfl rfl (by simp [scalars, sc_int, sc_str, sc_bool, sc_nil, sc_dsl, sc_own, sc_g, sc_f, *]) | exact storeB_fld rfl (by first | assumption | exact cl_g | exact cl_f) (by first | assumption | exact sc_g | exact sc_f) rfl) ?_ | refine Rs.store1 (l' := [.agg [_, _, _, _, _, _, _, _]]) rfl rfl rfl (by first | rfl | exact storeB_ag rfl rfl rfl (by simp [scalars, sc_int, sc_str, sc_bool, sc_nil, sc_dsl, sc_own, sc_g, sc_f, *]) | exact storeB_fld rfl (by first | assumption | exact cl_g | exact cl_f) (by first | assumption | exact sc_g | exact sc_f) rfl) ?_ | refine Rs.store2 (l' := [.agg [_, _, _, _, _, _, _, _]]) rfl rfl rfl (by first | rfl | exact storeB_ag rfl rfl rfl (by simp [scalars, sc_int, sc_str, sc_bool, sc_nil, sc_dsl, sc_own, sc_g, sc_f, *]) | exact storeB_fld rfl (by first | assumption | exact cl_g | exact cl_f) (by first | assumption | exact sc_g | exact sc_f) rfl) ?_ | refine Rs.store3 (l' := [.agg [_, _, _, _, _, _, _, _]]) rfl rfl rfl (by first | rfl | exact storeB_ag rfl rfl rfl (by simp [scalars, sc_int, sc_str, sc_bool, sc_nil, sc_dsl, sc_own, sc_g, sc_f, *]) | exact storeB_fld rfl (by first | assumption | exact cl_g | exact cl_f) (by first | assumption | exact sc_g | exact sc_f) rfl) ?_
        refine Rs.nil ?_
        refine Ps.thn ?_
        refine Ps.seq ?_
        refine Ps.seq ?_
        refine Ps.region rfl ?_
        refine Rs.move (p := .lit _) rfl rfl ?_
        refine Rs.nil ?_
        refine Ps.thn ?_
        refine Ps.block ?_
        -- loop 1 writes [6, 8, 23, 24, 25, 26, 27, 28, 29, 30, 31, 32, 33, 34, 35]
        refine Ps.loop (J := Nat) ⟨fun j => j ≤ 300, fun j => [(23, u32P (j : Int))], fun _ => (g7, 0, .blk 8 [.agg [i64P (x.k % 8), u32P f, u32P t, strP nm, pp, cp, i32P ce, i64P 0]] true) :: [], fun j => 300 - j⟩ [6, 8, 23, 24, 25, 26, 27, 28, 29, 30, 31, 32, 33, 34, 35] [(7, _), (22, _), (21, _), (20, _), (19, _), (18, _), (17, _), (16, _), (15, _), (14, _), (13, _), (12, _), (11, _), (10, _), (9, _), (3, _), (0, _), (1, _), (2, _)] 0 rfl (Nat.zero_le _) ⟨rfl, trivial⟩ (by repeat' first | exact List.Sublist.refl _ | exact List.nil_sublist _ | exact List.sublist_append_left _ _ | refine List.Sublist.cons_cons _ ?_ | refine List.Sublist.cons _ ?_) (fun j hj => ?_)
        have hj : j ≤ 300 := hj
        dsimp only [List.cons_append, List.nil_append]
        refine Ps.seq ?_
        refine Ps.region rfl ?_
        refine Rs.binB rfl rfl rfl rfl rfl rfl ?_
        refine Rs.nil ?_
        refine Ps.thn ?_
        refine Ps.seq ?_
        refine Ps.if rfl (fun hc => ?_) (fun hc => ?_)
        · try replace hc := dc hc
          refine Ps.skip ?_
          refine Ps.thn ?_
          refine Ps.seq ?_
          refine Ps.block ?_
          refine Ps.seq ?_
          refine Ps.region rfl ?_
          refine Rs.move rfl rfl ?_
          refine Rs.assign rfl rfl ?_
          refine Rs.nil ?_
          refine Ps.thn ?_
          refine Ps.seq ?_
          refine Ps.region rfl ?_
          first | refine Rs.loadR (p := .agg [_, _, _, _, _, _, _, _]) rfl rfl rfl rfl ?_ | refine Rs.loadP (p := .agg [_, _, _, _, _, _, _, _]) 0 rfl rfl rfl rfl rfl ?_ | refine Rs.loadP (p := .agg [_, _, _, _, _, _, _, _]) 1 rfl rfl rfl rfl rfl ?_ | refine Rs.loadP (p := .agg [_, _, _, _, _, _, _, _]) 2 rfl rfl rfl rfl rfl ?_ | refine Rs.loadP (p := .agg [_, _, _, _, _, _, _, _]) 3 rfl rfl rfl rfl rfl ?_
          refine Rs.move rfl rfl ?_
          refine Rs.move rfl rfl ?_
          refine Rs.call0 rfl rfl rfl (touches_ok _ _ _ _ _ _ _ _ _ (by assumption) (by assumption) (by assumption) _ _) (fun p29 hp => ?_)
          obtain rfl := hp
          first | refine Rs.loadR (p := .agg [_, _, _, _, _, _, _, _]) rfl rfl rfl rfl ?_ | refine Rs.loadP (p := .agg [_, _, _, _, _, _, _, _]) 0 rfl rfl rfl rfl rfl ?_ | refine Rs.loadP (p := .agg [_, _, _, _, _, _, _, _]) 1 rfl rfl rfl rfl rfl ?_ | refine Rs.loadP (p := .agg [_, _, _, _, _, _, _, _]) 2 rfl rfl rfl rfl rfl ?_ | refine Rs.loadP (p := .agg [_, _, _, _, _, _, _, _]) 3 rfl rfl rfl rfl rfl ?_
          refine Rs.move rfl rfl ?_
          refine Rs.move rfl rfl ?_
          refine Rs.call0 rfl rfl rfl (touches16_ok _ _ _ _ _ _ _ _ _ (by assumption) (by assumption) (by assumption) _ _) (fun p33 hp => ?_)
          obtain rfl := hp
          refine Rs.binB rfl rfl rfl rfl rfl rfl ?_
          refine Rs.nil ?_
          refine Ps.thn ?_
          refine Ps.if rfl (fun hc => ?_) (fun hc => ?_)
          · try replace hc := dc hc
            refine Ps.seq ?_
            refine Ps.region rfl ?_
            refine Rs.assign (p := .lit _) rfl rfl ?_
            refine Rs.nil ?_
            refine Ps.thn ?_
            refine Ps.ret ?_
            refine Ps.blk_ret ?_
            refine Ps.thn_ret ?_
            refine Ps.rnd_ret ?_
            refine Ps.blk_ret ?_
            refine Ps.thn_ret ?_
            -- leaf 3 (ret)
            first
              | (cases hc; done)
              | (refine Ps.finP (l := [_]) rfl (by refine ResR.tmp rfl ?_; exact ResR.nil) (by first | rfl | simp [plainP, plainC, cp_lit, cp_dsl, *]) rfl ?_
                 show boolP _ = boolP _
                 simp
                 done)
              | (exfalso
                 simp at hc
                 done)
              | (trace_state; sorry)
          · try replace hc := dc hc
            refine Ps.skip ?_
            refine Ps.blk ?_
            refine Ps.thn ?_
            refine Ps.region rfl ?_
            refine Rs.add rfl rfl rfl (by first | exact W_u32 (by omega) (by omega) | rfl) ?_
            refine Rs.move rfl rfl ?_
            refine Rs.nil ?_
            -- leaf 4 (round1)
            exact Ps.round (j + 1) (by show j + 1 ≤ 300; simp at *; omega) (by show 300 - (j + 1) < 300 - j; simp at *; omega) ⟨rfl, trivial⟩ (by repeat' first | exact HasL.nil | refine HasL.cons rfl ?_) (by repeat' first | exact List.Sublist.refl _ | exact List.nil_sublist _ | exact List.sublist_append_left _ _ | refine List.Sublist.cons_cons _ ?_ | refine List.Sublist.cons _ ?_)
        · try replace hc := dc hc
          refine Ps.exit ?_
          refine Ps.thn_exit ?_
          refine Ps.rnd_exit ?_
          refine Ps.blk_here ?_
          refine Ps.thn ?_
          refine Ps.seq ?_
          refine Ps.region rfl ?_
          first | refine Rs.loadR (p := .agg [_, _, _, _, _, _, _, _]) rfl rfl rfl rfl ?_ | refine Rs.loadP (p := .agg [_, _, _, _, _, _, _, _]) 0 rfl rfl rfl rfl rfl ?_ | refine Rs.loadP (p := .agg [_, _, _, _, _, _, _, _]) 1 rfl rfl rfl rfl rfl ?_ | refine Rs.loadP (p := .agg [_, _, _, _, _, _, _, _]) 2 rfl rfl rfl rfl rfl ?_ | refine Rs.loadP (p := .agg [_, _, _, _, _, _, _, _]) 3 rfl rfl rfl rfl rfl ?_
          refine Rs.move rfl rfl ?_
          refine Rs.move rfl rfl ?_
          refine Rs.convI rfl rfl ⟨_, rfl⟩ rfl rfl (by first | exact W_u32 (by omega) (by omega) | rfl) ?_
          refine Rs.call0 rfl rfl rfl (touches_ok _ _ _ _ _ _ _ _ _ (by assumption) (by assumption) (by assumption) _ _) (fun p40 hp => ?_)
          obtain rfl := hp
          first | refine Rs.loadR (p := .agg [_, _, _, _, _, _, _, _]) rfl rfl rfl rfl ?_ | refine Rs.loadP (p := .agg [_, _, _, _, _, _, _, _]) 0 rfl rfl rfl rfl rfl ?_ | refine Rs.loadP (p := .agg [_, _, _, _, _, _, _, _]) 1 rfl rfl rfl rfl rfl ?_ | refine Rs.loadP (p := .agg [_, _, _, _, _, _, _, _]) 2 rfl rfl rfl rfl rfl ?_ | refine Rs.loadP (p := .agg [_, _, _, _, _, _, _, _]) 3 rfl rfl rfl rfl rfl ?_
          refine Rs.move rfl rfl ?_
          refine Rs.move rfl rfl ?_
          refine Rs.convI rfl rfl ⟨_, rfl⟩ rfl rfl (by first | exact W_u32 (by omega) (by omega) | rfl) ?_
          refine Rs.call0 rfl rfl rfl (touches16_ok _ _ _ _ _ _ _ _ _ (by assumption) (by assumption) (by assumption) _ _) (fun p45 hp => ?_)
          obtain rfl := hp
          refine Rs.binB rfl rfl rfl rfl rfl rfl ?_
          refine Rs.assign rfl rfl ?_
          refine Rs.nil ?_
          refine Ps.thn ?_
          refine Ps.ret ?_
          -- leaf 5 (ret)
          first
            | (cases hc; done)
            | (refine Ps.finP (l := [_]) rfl (by refine ResR.tmp rfl ?_; exact ResR.nil) (by first | rfl | simp [plainP, plainC, cp_lit, cp_dsl, *]) rfl ?_
               show boolP _ = boolP _
               simp
               done)
            | (exfalso
               simp at hc
               done)
            | (trace_state; sorry)
    · try replace hg := dc hg
      refine Rs.guardF1 rfl rfl rfl ?_
      refine Rs.guardF1 rfl rfl rfl ?_
      refine Rs.guardF1 rfl rfl rfl ?_
      refine Rs.pickT (p := .lit _) rfl rfl rfl rfl ?_
      refine Rs.nil ?_
      refine Ps.thn ?_
      refine Ps.ifT rfl ?_
      refine Ps.seq ?_
      refine Ps.region rfl ?_
      refine Rs.assign (p := .lit _) rfl rfl ?_
      refine Rs.nil ?_
      refine Ps.thn ?_
      refine Ps.ret ?_
      refine Ps.thn_ret ?_
      -- leaf 6 (ret)
      first
        | (cases hc; done)
        | (refine Ps.finP (l := [_]) rfl (by refine ResR.tmp rfl ?_; exact ResR.nil) (by first | rfl | simp [plainP, plainC, cp_lit, cp_dsl, *]) rfl ?_
           show boolP _ = boolP _
           simp
           done)
        | (exfalso
           simp at hc
           done)
        | (trace_state; sorry)
end Go.Proofs.YthabndifdgafbaaGreatDoor.RV.T
end
