-- Written by a program of this session's (wip/xp) out of the translation; given functions by hand.
import Derived.Test.YtnbdcpgaceongaaDoorProg
import Derived.Below
import Derived.Deep.Draws
import Derived.Deep.AppendLies
import Derived.Maps.AppendAt
import Derived.OwnWalk
import Derived.Laws.BytesArg
import Derived.Laws.MakeOwn
import Derived.Laws.OwnMore
import Derived.Deep.OwnRows
import Derived.Tactics
import Derived.Lib.ConvBytes
import Derived.Laws.Slices
import Derived.WalkKit
import Derived.KernelRfl
import Derived.RowKit3
import Derived.Deep.LoopGhost
import Derived.Deep.QuietTactic
import Derived.BigQuiet
import Derived.WideLaws
import Derived.Deep.DeepCutAuto
import Derived.Deep.CutBlock
import Derived.Deep.RegionHeld3
import Derived.Laws.Rows
import Derived.Lib.AppendStr
import Derived.ArgAppend
import Derived.Laws.IdiomCopy
import Derived.OrdersHeld
import Derived.Laws.BitsLemmas
import Derived.RowKit
import Derived.Lib.SmallJoins
import Derived.Lib.LaidTab
import Derived.Lib.AtoiAll
import Derived.Lib.AppendIntMem
import Derived.WalkSmall
import Derived.Test.YtnbdcpgaceongaaDoorShelf
import Derived.Test.YtnbdcpgaceongaaDoorWWords
import Derived.Test.YtnbdcpgaceongaaDoorWLast
import Derived.Test.YtnbdcpgaceongaaDoorWTab
import Derived.Test.YtnbdcpgaceongaaDoorWFour
import Derived.Test.YtnbdcpgaceongaaDoorWQPut
import Derived.Test.YtnbdcpgaceongaaDoorWApart
import Derived.Test.YtnbdcpgaceongaaDoorWArr
import Derived.Test.YtnbdcpgaceongaaDoorWZeros
import Derived.Test.YtnbdcpgaceongaaDoorWFoot
import Derived.Test.YtnbdcpgaceongaaDoorWKept
import Derived.Test.YtnbdcpgaceongaaDoorWShare
import Derived.Test.YtnbdcpgaceongaaDoorWN
import Derived.Test.YtnbdcpgaceongaaDoorWFootNe
import Derived.Test.YtnbdcpgaceongaaDoorWAt
import Derived.Test.YtnbdcpgaceongaaDoorWEqStruct
import Derived.Test.YtnbdcpgaceongaaDoorWRepsOne
import Derived.Test.YtnbdcpgaceongaaDoorWInv
import Derived.Test.YtnbdcpgaceongaaDoorWInvWords
import Derived.Test.YtnbdcpgaceongaaDoorWGuard
import Derived.Test.YtnbdcpgaceongaaDoorWNEv
import Derived.Test.YtnbdcpgaceongaaDoorWMore
namespace Go.Proofs.YtnbdcpgaceongaaDoor.XA
open Go.RowKit Go.Proofs.YtnbdcpgaceongaaDoorW.PrintWords Go.Proofs.YtnbdcpgaceongaaDoorW.PrintLast Go.Proofs.YtnbdcpgaceongaaDoorW.PrintMore
attribute [local go_sem] max2_int min2_int max_two min_two max_three min_three max_four min_four   -- for this text's walks alone
set_option linter.unusedVariables false
set_option linter.unusedSimpArgs false



def errW : Option Int → Value
  | none => .nilIface
  | some c => .iface 0 (.int .i64 c)
theorem errW_none : errW none = .nilIface := rfl
theorem errW_some (c : Int) : errW (some c) = .iface 0 (.int .i64 c) := rfl

/-- What the laid variables hold. -/
def monthsL : List Int := [31, 28, 31, 30, 31, 30, 31, 31, 30, 31, 30, 31]
structure Glob (w : World) : Prop where
  months : ∀ i : Nat, i < 12 → w.cell? ⟨0, i, none⟩ = some (.int .i64 (monthsL.getD i 0))
  pow10 : Lib.TabIs Tryd.prog w "internal/strconv.uint64pow10" .u64 Lib.pow10Tab
  synErr : ∃ te pe, w.cell? ⟨1, 0, none⟩ = some (.iface te pe)
  rngErr : ∃ te pe, w.cell? ⟨2, 0, none⟩ = some (.iface te pe)
theorem globalPow10 : Tryd.prog.globalNamed "internal/strconv.uint64pow10" = some 3 := by kernel_rfl
theorem Glob.below {w w' : World} (h : Below w.heap.size w w') (G : Glob w) : Glob w' := by
  refine ⟨fun i hi => pw_cell_below h (G.months i hi), ?_, ?_, ?_⟩
  · exact Go.Joins.var_stays globalPow10 G.pow10 h (Nat.le_refl _)
  · obtain ⟨te, pe, h1⟩ := G.synErr
    exact ⟨te, pe, pw_cell_below h h1⟩
  · obtain ⟨te, pe, h1⟩ := G.rngErr
    exact ⟨te, pe, pw_cell_below h h1⟩
theorem Glob.drawn {w w' : World} (h : Drawn0 w w') (G : Glob w) : Glob w' := G.below h.below
theorem Glob.drewN {w : World} {n : Nat} (G : Glob w) : Glob (w.drewN n) := G.below (Drawn0.below (Drawn0.step (Drawn0.refl w) n))
theorem Glob.drew {w : World} (G : Glob w) : Glob w.drew := G.drewN (n := 1)

theorem info2 : (Tryd.prog.info? 2).map (fun i => (i.zero, i.size, i.bytes)) = some (some (.int .i64 0), 1, 8) := by kernel_rfl
theorem info56 : (Tryd.prog.info? 56).map (fun i => (i.zero, i.size, i.bytes)) = some (some (.int .u64 0), 1, 8) := by kernel_rfl
-- the values' own types

end Go.Proofs.YtnbdcpgaceongaaDoor.XA
