/-
  NARROWER THAN 'FOR EVERY INPUT', by the rows' own cells (each row's printed sentence says how): CalendarSames: laid · CalendarWhole: laid · CalendarPeriods: laid · CalendarChecks: laid · CalendarShift: laid · UnitMany: laid · UnitChecks: laid · UnitTurns: laid · UnitBack: laid.
  DERIVED. THE GIVEN ROWS OF THIS SEAT. 9 by the template 'for every input the law returns true; each argument reads behind the call as it read before'; 0 by the template 'total and deterministic' (their statements: YtfpfilmdlconhaaGreatDoorTotals.lean).
  GIVEN WITH THE SEED: the statements are not yours to turn. If you find one false, say at which input.
  Laid BY PROGRAM, IN A SANDBOX (cutbox-rows.mjs): the forced cells as the released guide's own fill.sh prints them over the translation 78fbd26ba66e09b1… (all of the seat's roots in one cut). By AI agents, Wed Nov 11 2026. No macro, syntax, notation, axiom, sorry.
-/
import Derived.Test.YtfpfilmdlconhaaGreatDoorChecked
import GoSem.Claim
import GoSem.ClaimJoined
import GoSem.ClaimMapViews
import Derived.JoinedTies
import Derived.KernelRfl
namespace Go.Proofs.YtfpfilmdlconhaaGreatDoor
/- THE CELL 'sum', in the pinned program and in every row, IS THE sha256 OF THE DUMP (.gsa) THAT YtfpfilmdlconhaaGreatDoorProg.lean LOADS. Nothing in Lean hashes anything: it is a label: what it is worth is what the hold of that sum in a sandbox is worth. -/
noncomputable def Tryz.pinned : Pinned := { name := "ytfpfilmdlconhaagreatdoor", sum := "78fbd26ba66e09b175d0cca97e2f74f2bd95b65718551ba36252e91c0de929d6", checked := Tryz.checked }
namespace Rows
def none {H : Type} : Left H := { results := [], args := [] }

/- WHAT THE LISTED PACKAGE-LEVEL VARIABLES READ AS WHEN THE CALL BEGINS. Each datum BY PROGRAM (the guide's laid-datum.mjs) off the statement by which the dump's own 'gosem.cut.vars' lays the variable. In a bare row this is a premise. The card (YtfpfilmdlconhaaGreatDoorCards.lean) ties it to the program's text. -/
def laid_math_bits_deBruijn32tab {H : Type} : DataW H := .agg [.lit (.int .u8 0), .lit (.int .u8 1), .lit (.int .u8 28), .lit (.int .u8 2), .lit (.int .u8 29), .lit (.int .u8 14), .lit (.int .u8 24), .lit (.int .u8 3), .lit (.int .u8 30), .lit (.int .u8 22), .lit (.int .u8 20), .lit (.int .u8 15), .lit (.int .u8 25), .lit (.int .u8 17), .lit (.int .u8 4), .lit (.int .u8 8), .lit (.int .u8 31), .lit (.int .u8 27), .lit (.int .u8 13), .lit (.int .u8 23), .lit (.int .u8 21), .lit (.int .u8 19), .lit (.int .u8 16), .lit (.int .u8 7), .lit (.int .u8 26), .lit (.int .u8 12), .lit (.int .u8 18), .lit (.int .u8 6), .lit (.int .u8 11), .lit (.int .u8 5), .lit (.int .u8 10), .lit (.int .u8 9)]
def laid_math_bits_deBruijn64tab {H : Type} : DataW H := .agg [.lit (.int .u8 0), .lit (.int .u8 1), .lit (.int .u8 56), .lit (.int .u8 2), .lit (.int .u8 57), .lit (.int .u8 49), .lit (.int .u8 28), .lit (.int .u8 3), .lit (.int .u8 61), .lit (.int .u8 58), .lit (.int .u8 42), .lit (.int .u8 50), .lit (.int .u8 38), .lit (.int .u8 29), .lit (.int .u8 17), .lit (.int .u8 4), .lit (.int .u8 62), .lit (.int .u8 47), .lit (.int .u8 59), .lit (.int .u8 36), .lit (.int .u8 45), .lit (.int .u8 43), .lit (.int .u8 51), .lit (.int .u8 22), .lit (.int .u8 53), .lit (.int .u8 39), .lit (.int .u8 33), .lit (.int .u8 30), .lit (.int .u8 24), .lit (.int .u8 18), .lit (.int .u8 12), .lit (.int .u8 5), .lit (.int .u8 63), .lit (.int .u8 55), .lit (.int .u8 48), .lit (.int .u8 27), .lit (.int .u8 60), .lit (.int .u8 41), .lit (.int .u8 37), .lit (.int .u8 16), .lit (.int .u8 46), .lit (.int .u8 35), .lit (.int .u8 44), .lit (.int .u8 21), .lit (.int .u8 52), .lit (.int .u8 32), .lit (.int .u8 23), .lit (.int .u8 11), .lit (.int .u8 54), .lit (.int .u8 26), .lit (.int .u8 40), .lit (.int .u8 15), .lit (.int .u8 34), .lit (.int .u8 20), .lit (.int .u8 31), .lit (.int .u8 10), .lit (.int .u8 25), .lit (.int .u8 14), .lit (.int .u8 19), .lit (.int .u8 9), .lit (.int .u8 13), .lit (.int .u8 8), .lit (.int .u8 7), .lit (.int .u8 6)]
def laid_internal_strconv_uint64pow10 {H : Type} : DataW H := .agg [.lit (.int .u64 1), .lit (.int .u64 10), .lit (.int .u64 100), .lit (.int .u64 1000), .lit (.int .u64 10000), .lit (.int .u64 100000), .lit (.int .u64 1000000), .lit (.int .u64 10000000), .lit (.int .u64 100000000), .lit (.int .u64 1000000000), .lit (.int .u64 10000000000), .lit (.int .u64 100000000000), .lit (.int .u64 1000000000000), .lit (.int .u64 10000000000000), .lit (.int .u64 100000000000000), .lit (.int .u64 1000000000000000), .lit (.int .u64 10000000000000000), .lit (.int .u64 100000000000000000), .lit (.int .u64 1000000000000000000), .lit (.int .u64 10000000000000000000)]
def laid_strconv_ErrRange {H : Type} : DataW H := .iface "*errors.errorString" (.ptr (.agg [.lit (.string [118, 97, 108, 117, 101, 32, 111, 117, 116, 32, 111, 102, 32, 114, 97, 110, 103, 101])]))
def laid_strconv_ErrSyntax {H : Type} : DataW H := .iface "*errors.errorString" (.ptr (.agg [.lit (.string [105, 110, 118, 97, 108, 105, 100, 32, 115, 121, 110, 116, 97, 120])]))
def laid_transposal_day_months {H : Type} : DataW H := .agg [.lit (.int .i64 31), .lit (.int .i64 28), .lit (.int .i64 31), .lit (.int .i64 30), .lit (.int .i64 31), .lit (.int .i64 30), .lit (.int .i64 31), .lit (.int .i64 31), .lit (.int .i64 30), .lit (.int .i64 31), .lit (.int .i64 30), .lit (.int .i64 31)]

/-- 'transposallaw08.CalendarSames': WHATEVER THE INPUT: true; the input reads as it did. -/
def calendarSamesSpec : ChangeSpec := { name := "calendarSames", fn := fun _ => fun
  | [d1, d2, d3, d4, d5] => { results := [.lit (.bool true)], args := [d1, d2, d3, d4, d5] }
  | _ => none }
def calendarSamesRow : OpenClaim := { program := "ytfpfilmdlconhaagreatdoor", sum := "78fbd26ba66e09b175d0cca97e2f74f2bd95b65718551ba36252e91c0de929d6", func := "transposal/transposallaw08.CalendarSames", spec := "calendarSames", inPlace := ["slices.overlaps[uint16]", "internal/abi.NoEscape", "internal/bytealg.MakeNoZero", "internal/bytealg.IndexByteString", "internal/bytealg.IndexString"], unfollowed := true, recurses := true, named := ["transposal/day.months", "internal/strconv.uint64pow10", "math/bits.deBruijn32tab", "math/bits.deBruijn64tab", "internal/bytealg.MaxLen", "strconv.ErrSyntax", "strconv.ErrRange"], apart := false, laid := [("math/bits.deBruijn32tab", laid_math_bits_deBruijn32tab), ("math/bits.deBruijn64tab", laid_math_bits_deBruijn64tab), ("internal/strconv.uint64pow10", laid_internal_strconv_uint64pow10), ("strconv.ErrRange", laid_strconv_ErrRange), ("strconv.ErrSyntax", laid_strconv_ErrSyntax), ("transposal/day.months", laid_transposal_day_months)] }
def CalendarSamesSaid : Prop := calendarSamesRow.holds Tryz.pinned (OpenSpec.ofChange calendarSamesSpec)

/-- ITS FALSE NEIGHBOUR: 'it returns false'. Refute it at one input. -/
def calendarSamesWrong : ChangeSpec := { name := "calendarSames", fn := fun _ => fun
  | [d1, d2, d3, d4, d5] => { results := [.lit (.bool false)], args := [d1, d2, d3, d4, d5] }
  | _ => none }
def CalendarSamesWrongFalsely : Prop := calendarSamesRow.holds Tryz.pinned (OpenSpec.ofChange calendarSamesWrong)

/-- 'transposallaw08.CalendarWhole': WHATEVER THE INPUT: true; the input reads as it did. -/
def calendarWholeSpec : ChangeSpec := { name := "calendarWhole", fn := fun _ => fun
  | [d1, d2] => { results := [.lit (.bool true)], args := [d1, d2] }
  | _ => none }
def calendarWholeRow : OpenClaim := { program := "ytfpfilmdlconhaagreatdoor", sum := "78fbd26ba66e09b175d0cca97e2f74f2bd95b65718551ba36252e91c0de929d6", func := "transposal/transposallaw08.CalendarWhole", spec := "calendarWhole", inPlace := ["slices.overlaps[uint16]", "internal/abi.NoEscape", "internal/bytealg.MakeNoZero", "internal/bytealg.IndexByteString", "internal/bytealg.IndexString"], unfollowed := true, recurses := true, named := ["transposal/day.months", "internal/strconv.uint64pow10", "math/bits.deBruijn32tab", "math/bits.deBruijn64tab", "internal/bytealg.MaxLen", "strconv.ErrSyntax", "strconv.ErrRange"], apart := false, laid := [("math/bits.deBruijn32tab", laid_math_bits_deBruijn32tab), ("math/bits.deBruijn64tab", laid_math_bits_deBruijn64tab), ("internal/strconv.uint64pow10", laid_internal_strconv_uint64pow10), ("strconv.ErrRange", laid_strconv_ErrRange), ("strconv.ErrSyntax", laid_strconv_ErrSyntax), ("transposal/day.months", laid_transposal_day_months)] }
def CalendarWholeSaid : Prop := calendarWholeRow.holds Tryz.pinned (OpenSpec.ofChange calendarWholeSpec)

/-- ITS FALSE NEIGHBOUR: 'it returns false'. Refute it at one input. -/
def calendarWholeWrong : ChangeSpec := { name := "calendarWhole", fn := fun _ => fun
  | [d1, d2] => { results := [.lit (.bool false)], args := [d1, d2] }
  | _ => none }
def CalendarWholeWrongFalsely : Prop := calendarWholeRow.holds Tryz.pinned (OpenSpec.ofChange calendarWholeWrong)

/-- 'transposallaw08.CalendarPeriods': WHATEVER THE INPUT: true; the input reads as it did. -/
def calendarPeriodsSpec : ChangeSpec := { name := "calendarPeriods", fn := fun _ => fun
  | [d1, d2, d3] => { results := [.lit (.bool true)], args := [d1, d2, d3] }
  | _ => none }
def calendarPeriodsRow : OpenClaim := { program := "ytfpfilmdlconhaagreatdoor", sum := "78fbd26ba66e09b175d0cca97e2f74f2bd95b65718551ba36252e91c0de929d6", func := "transposal/transposallaw08.CalendarPeriods", spec := "calendarPeriods", inPlace := ["slices.overlaps[uint16]", "internal/abi.NoEscape", "internal/bytealg.MakeNoZero", "internal/bytealg.IndexByteString", "internal/bytealg.IndexString"], unfollowed := true, recurses := true, named := ["transposal/day.months", "internal/strconv.uint64pow10", "math/bits.deBruijn32tab", "math/bits.deBruijn64tab", "internal/bytealg.MaxLen", "strconv.ErrSyntax", "strconv.ErrRange"], apart := false, laid := [("math/bits.deBruijn32tab", laid_math_bits_deBruijn32tab), ("math/bits.deBruijn64tab", laid_math_bits_deBruijn64tab), ("internal/strconv.uint64pow10", laid_internal_strconv_uint64pow10), ("strconv.ErrRange", laid_strconv_ErrRange), ("strconv.ErrSyntax", laid_strconv_ErrSyntax), ("transposal/day.months", laid_transposal_day_months)] }
def CalendarPeriodsSaid : Prop := calendarPeriodsRow.holds Tryz.pinned (OpenSpec.ofChange calendarPeriodsSpec)

/-- ITS FALSE NEIGHBOUR: 'it returns false'. Refute it at one input. -/
def calendarPeriodsWrong : ChangeSpec := { name := "calendarPeriods", fn := fun _ => fun
  | [d1, d2, d3] => { results := [.lit (.bool false)], args := [d1, d2, d3] }
  | _ => none }
def CalendarPeriodsWrongFalsely : Prop := calendarPeriodsRow.holds Tryz.pinned (OpenSpec.ofChange calendarPeriodsWrong)

/-- 'transposallaw08.CalendarChecks': WHATEVER THE INPUT: true; the input reads as it did. -/
def calendarChecksSpec : ChangeSpec := { name := "calendarChecks", fn := fun _ => fun
  | [d1, d2, d3] => { results := [.lit (.bool true)], args := [d1, d2, d3] }
  | _ => none }
def calendarChecksRow : OpenClaim := { program := "ytfpfilmdlconhaagreatdoor", sum := "78fbd26ba66e09b175d0cca97e2f74f2bd95b65718551ba36252e91c0de929d6", func := "transposal/transposallaw08.CalendarChecks", spec := "calendarChecks", inPlace := ["slices.overlaps[uint16]", "internal/abi.NoEscape", "internal/bytealg.MakeNoZero", "internal/bytealg.IndexByteString", "internal/bytealg.IndexString"], unfollowed := true, recurses := true, named := ["transposal/day.months", "internal/strconv.uint64pow10", "math/bits.deBruijn32tab", "math/bits.deBruijn64tab", "internal/bytealg.MaxLen", "strconv.ErrSyntax", "strconv.ErrRange"], apart := false, laid := [("math/bits.deBruijn32tab", laid_math_bits_deBruijn32tab), ("math/bits.deBruijn64tab", laid_math_bits_deBruijn64tab), ("internal/strconv.uint64pow10", laid_internal_strconv_uint64pow10), ("strconv.ErrRange", laid_strconv_ErrRange), ("strconv.ErrSyntax", laid_strconv_ErrSyntax), ("transposal/day.months", laid_transposal_day_months)] }
def CalendarChecksSaid : Prop := calendarChecksRow.holds Tryz.pinned (OpenSpec.ofChange calendarChecksSpec)

/-- ITS FALSE NEIGHBOUR: 'it returns false'. Refute it at one input. -/
def calendarChecksWrong : ChangeSpec := { name := "calendarChecks", fn := fun _ => fun
  | [d1, d2, d3] => { results := [.lit (.bool false)], args := [d1, d2, d3] }
  | _ => none }
def CalendarChecksWrongFalsely : Prop := calendarChecksRow.holds Tryz.pinned (OpenSpec.ofChange calendarChecksWrong)

/-- 'transposallaw08.CalendarShift': WHATEVER THE INPUT: true; the input reads as it did. -/
def calendarShiftSpec : ChangeSpec := { name := "calendarShift", fn := fun _ => fun
  | [d1, d2, d3, d4] => { results := [.lit (.bool true)], args := [d1, d2, d3, d4] }
  | _ => none }
def calendarShiftRow : OpenClaim := { program := "ytfpfilmdlconhaagreatdoor", sum := "78fbd26ba66e09b175d0cca97e2f74f2bd95b65718551ba36252e91c0de929d6", func := "transposal/transposallaw08.CalendarShift", spec := "calendarShift", inPlace := ["slices.overlaps[uint16]", "internal/abi.NoEscape", "internal/bytealg.MakeNoZero", "internal/bytealg.IndexByteString", "internal/bytealg.IndexString"], unfollowed := true, recurses := true, named := ["transposal/day.months", "internal/strconv.uint64pow10", "math/bits.deBruijn32tab", "math/bits.deBruijn64tab", "internal/bytealg.MaxLen", "strconv.ErrSyntax", "strconv.ErrRange"], apart := false, laid := [("math/bits.deBruijn32tab", laid_math_bits_deBruijn32tab), ("math/bits.deBruijn64tab", laid_math_bits_deBruijn64tab), ("internal/strconv.uint64pow10", laid_internal_strconv_uint64pow10), ("strconv.ErrRange", laid_strconv_ErrRange), ("strconv.ErrSyntax", laid_strconv_ErrSyntax), ("transposal/day.months", laid_transposal_day_months)] }
def CalendarShiftSaid : Prop := calendarShiftRow.holds Tryz.pinned (OpenSpec.ofChange calendarShiftSpec)

/-- ITS FALSE NEIGHBOUR: 'it returns false'. Refute it at one input. -/
def calendarShiftWrong : ChangeSpec := { name := "calendarShift", fn := fun _ => fun
  | [d1, d2, d3, d4] => { results := [.lit (.bool false)], args := [d1, d2, d3, d4] }
  | _ => none }
def CalendarShiftWrongFalsely : Prop := calendarShiftRow.holds Tryz.pinned (OpenSpec.ofChange calendarShiftWrong)

/-- 'transposallaw07.UnitMany': WHATEVER THE INPUT: true; the input reads as it did. -/
def unitManySpec : ChangeSpec := { name := "unitMany", fn := fun _ => fun
  | [d] => { results := [.lit (.bool true)], args := [d] }
  | _ => none }
def unitManyRow : OpenClaim := { program := "ytfpfilmdlconhaagreatdoor", sum := "78fbd26ba66e09b175d0cca97e2f74f2bd95b65718551ba36252e91c0de929d6", func := "transposal/transposallaw07.UnitMany", spec := "unitMany", inPlace := ["slices.overlaps[uint16]", "internal/abi.NoEscape", "internal/bytealg.MakeNoZero", "internal/bytealg.IndexByteString", "internal/bytealg.IndexString"], unfollowed := true, recurses := true, named := ["transposal/day.months", "internal/strconv.uint64pow10", "math/bits.deBruijn32tab", "math/bits.deBruijn64tab", "internal/bytealg.MaxLen", "strconv.ErrSyntax", "strconv.ErrRange"], apart := false, laid := [("math/bits.deBruijn32tab", laid_math_bits_deBruijn32tab), ("math/bits.deBruijn64tab", laid_math_bits_deBruijn64tab), ("internal/strconv.uint64pow10", laid_internal_strconv_uint64pow10), ("strconv.ErrRange", laid_strconv_ErrRange), ("strconv.ErrSyntax", laid_strconv_ErrSyntax), ("transposal/day.months", laid_transposal_day_months)] }
def UnitManySaid : Prop := unitManyRow.holds Tryz.pinned (OpenSpec.ofChange unitManySpec)

/-- ITS FALSE NEIGHBOUR: 'it returns false'. Refute it at one input. -/
def unitManyWrong : ChangeSpec := { name := "unitMany", fn := fun _ => fun
  | [d] => { results := [.lit (.bool false)], args := [d] }
  | _ => none }
def UnitManyWrongFalsely : Prop := unitManyRow.holds Tryz.pinned (OpenSpec.ofChange unitManyWrong)

/-- 'transposallaw07.UnitChecks': WHATEVER THE INPUT: true; the input reads as it did. -/
def unitChecksSpec : ChangeSpec := { name := "unitChecks", fn := fun _ => fun
  | [d1, d2, d3] => { results := [.lit (.bool true)], args := [d1, d2, d3] }
  | _ => none }
def unitChecksRow : OpenClaim := { program := "ytfpfilmdlconhaagreatdoor", sum := "78fbd26ba66e09b175d0cca97e2f74f2bd95b65718551ba36252e91c0de929d6", func := "transposal/transposallaw07.UnitChecks", spec := "unitChecks", inPlace := ["slices.overlaps[uint16]", "internal/abi.NoEscape", "internal/bytealg.MakeNoZero", "internal/bytealg.IndexByteString", "internal/bytealg.IndexString"], unfollowed := true, recurses := true, named := ["transposal/day.months", "internal/strconv.uint64pow10", "math/bits.deBruijn32tab", "math/bits.deBruijn64tab", "internal/bytealg.MaxLen", "strconv.ErrSyntax", "strconv.ErrRange"], apart := false, laid := [("math/bits.deBruijn32tab", laid_math_bits_deBruijn32tab), ("math/bits.deBruijn64tab", laid_math_bits_deBruijn64tab), ("internal/strconv.uint64pow10", laid_internal_strconv_uint64pow10), ("strconv.ErrRange", laid_strconv_ErrRange), ("strconv.ErrSyntax", laid_strconv_ErrSyntax), ("transposal/day.months", laid_transposal_day_months)] }
def UnitChecksSaid : Prop := unitChecksRow.holds Tryz.pinned (OpenSpec.ofChange unitChecksSpec)

/-- ITS FALSE NEIGHBOUR: 'it returns false'. Refute it at one input. -/
def unitChecksWrong : ChangeSpec := { name := "unitChecks", fn := fun _ => fun
  | [d1, d2, d3] => { results := [.lit (.bool false)], args := [d1, d2, d3] }
  | _ => none }
def UnitChecksWrongFalsely : Prop := unitChecksRow.holds Tryz.pinned (OpenSpec.ofChange unitChecksWrong)

/-- 'transposallaw07.UnitTurns': WHATEVER THE INPUT: true; the input reads as it did. -/
def unitTurnsSpec : ChangeSpec := { name := "unitTurns", fn := fun _ => fun
  | [d1, d2] => { results := [.lit (.bool true)], args := [d1, d2] }
  | _ => none }
def unitTurnsRow : OpenClaim := { program := "ytfpfilmdlconhaagreatdoor", sum := "78fbd26ba66e09b175d0cca97e2f74f2bd95b65718551ba36252e91c0de929d6", func := "transposal/transposallaw07.UnitTurns", spec := "unitTurns", inPlace := ["slices.overlaps[uint16]", "internal/abi.NoEscape", "internal/bytealg.MakeNoZero", "internal/bytealg.IndexByteString", "internal/bytealg.IndexString"], unfollowed := true, recurses := true, named := ["transposal/day.months", "internal/strconv.uint64pow10", "math/bits.deBruijn32tab", "math/bits.deBruijn64tab", "internal/bytealg.MaxLen", "strconv.ErrSyntax", "strconv.ErrRange"], apart := false, laid := [("math/bits.deBruijn32tab", laid_math_bits_deBruijn32tab), ("math/bits.deBruijn64tab", laid_math_bits_deBruijn64tab), ("internal/strconv.uint64pow10", laid_internal_strconv_uint64pow10), ("strconv.ErrRange", laid_strconv_ErrRange), ("strconv.ErrSyntax", laid_strconv_ErrSyntax), ("transposal/day.months", laid_transposal_day_months)] }
def UnitTurnsSaid : Prop := unitTurnsRow.holds Tryz.pinned (OpenSpec.ofChange unitTurnsSpec)

/-- ITS FALSE NEIGHBOUR: 'it returns false'. Refute it at one input. -/
def unitTurnsWrong : ChangeSpec := { name := "unitTurns", fn := fun _ => fun
  | [d1, d2] => { results := [.lit (.bool false)], args := [d1, d2] }
  | _ => none }
def UnitTurnsWrongFalsely : Prop := unitTurnsRow.holds Tryz.pinned (OpenSpec.ofChange unitTurnsWrong)

/-- 'transposallaw07.UnitBack': WHATEVER THE INPUT: true; the input reads as it did. -/
def unitBackSpec : ChangeSpec := { name := "unitBack", fn := fun _ => fun
  | [d1, d2, d3] => { results := [.lit (.bool true)], args := [d1, d2, d3] }
  | _ => none }
def unitBackRow : OpenClaim := { program := "ytfpfilmdlconhaagreatdoor", sum := "78fbd26ba66e09b175d0cca97e2f74f2bd95b65718551ba36252e91c0de929d6", func := "transposal/transposallaw07.UnitBack", spec := "unitBack", inPlace := ["slices.overlaps[uint16]", "internal/abi.NoEscape", "internal/bytealg.MakeNoZero", "internal/bytealg.IndexByteString", "internal/bytealg.IndexString"], unfollowed := true, recurses := true, named := ["transposal/day.months", "internal/strconv.uint64pow10", "math/bits.deBruijn32tab", "math/bits.deBruijn64tab", "internal/bytealg.MaxLen", "strconv.ErrSyntax", "strconv.ErrRange"], apart := false, laid := [("math/bits.deBruijn32tab", laid_math_bits_deBruijn32tab), ("math/bits.deBruijn64tab", laid_math_bits_deBruijn64tab), ("internal/strconv.uint64pow10", laid_internal_strconv_uint64pow10), ("strconv.ErrRange", laid_strconv_ErrRange), ("strconv.ErrSyntax", laid_strconv_ErrSyntax), ("transposal/day.months", laid_transposal_day_months)] }
def UnitBackSaid : Prop := unitBackRow.holds Tryz.pinned (OpenSpec.ofChange unitBackSpec)

/-- ITS FALSE NEIGHBOUR: 'it returns false'. Refute it at one input. -/
def unitBackWrong : ChangeSpec := { name := "unitBack", fn := fun _ => fun
  | [d1, d2, d3] => { results := [.lit (.bool false)], args := [d1, d2, d3] }
  | _ => none }
def UnitBackWrongFalsely : Prop := unitBackRow.holds Tryz.pinned (OpenSpec.ofChange unitBackWrong)

/- THE SECOND FORM. 'bulk': how many values and letters a reading holds, each counted each time it is reached (what is shared counts as often as it is met; a slice's spare places count too). A statement '..UptoSaid' is the law's where the arguments, and the package variables that the reading takes, are together of bulk at most 1048576: NARROWER than '..Said'. Prove '..Said' where nothing that the law and all that it calls make is longer than what came in: it says more and counts as full. Else prove '..UptoSaid'. A law counts once. -/
mutual
def uptoBulk {H : Type} : DataW H → Nat
  | .lit (.string bytes) => bytes.length + 1
  | .lit _ => 1
  | .nil => 1
  | .ptr d => uptoBulk d + 1
  | .slice elems spare => uptoBulkAll elems + uptoBulkAll spare + 1
  | .agg parts => uptoBulkAll parts + 1
  | .iface _ d => uptoBulk d + 1
  | .map entries => uptoBulkEntries entries + 1
  | .held _ => 1
def uptoBulkAll {H : Type} : List (DataW H) → Nat
  | [] => 0
  | d :: r => uptoBulk d + uptoBulkAll r
def uptoBulkEntries {H : Type} : List (Lit × DataW H) → Nat
  | [] => 0
  | x :: r => uptoBulkEntry x + uptoBulkEntries r
def uptoBulkEntry {H : Type} : Lit × DataW H → Nat
  | (.string bytes, d) => bytes.length + uptoBulk d + 1
  | (_, d) => uptoBulk d + 1
 end
def uptoSmall : (H : Type) → List (DataW H) → Bool := fun _ ds => decide (uptoBulkAll ds ≤ 1048576)
def OpenSpec.upto (s : _root_.Go.ChangeSpec) : _root_.Go.OpenSpec := { _root_.Go.OpenSpec.ofChange s with cond := some uptoSmall }

/-- 'transposallaw08.CalendarSames', WHERE WHAT IT READS IS OF BULK AT MOST 1048576: true; the input reads as it did. -/
def calendarSamesUptoRow : OpenClaim := { program := "ytfpfilmdlconhaagreatdoor", sum := "78fbd26ba66e09b175d0cca97e2f74f2bd95b65718551ba36252e91c0de929d6", func := "transposal/transposallaw08.CalendarSames", spec := "calendarSames", inPlace := ["slices.overlaps[uint16]", "internal/abi.NoEscape", "internal/bytealg.MakeNoZero", "internal/bytealg.IndexByteString", "internal/bytealg.IndexString"], unfollowed := true, recurses := true, named := ["transposal/day.months", "internal/strconv.uint64pow10", "math/bits.deBruijn32tab", "math/bits.deBruijn64tab", "internal/bytealg.MaxLen", "strconv.ErrSyntax", "strconv.ErrRange"], apart := false, laid := [("math/bits.deBruijn32tab", laid_math_bits_deBruijn32tab), ("math/bits.deBruijn64tab", laid_math_bits_deBruijn64tab), ("internal/strconv.uint64pow10", laid_internal_strconv_uint64pow10), ("strconv.ErrRange", laid_strconv_ErrRange), ("strconv.ErrSyntax", laid_strconv_ErrSyntax), ("transposal/day.months", laid_transposal_day_months)], narrowed := true }
def CalendarSamesUptoSaid : Prop := calendarSamesUptoRow.holds Tryz.pinned (OpenSpec.upto calendarSamesSpec)

/-- 'transposallaw08.CalendarWhole', WHERE WHAT IT READS IS OF BULK AT MOST 1048576: true; the input reads as it did. -/
def calendarWholeUptoRow : OpenClaim := { program := "ytfpfilmdlconhaagreatdoor", sum := "78fbd26ba66e09b175d0cca97e2f74f2bd95b65718551ba36252e91c0de929d6", func := "transposal/transposallaw08.CalendarWhole", spec := "calendarWhole", inPlace := ["slices.overlaps[uint16]", "internal/abi.NoEscape", "internal/bytealg.MakeNoZero", "internal/bytealg.IndexByteString", "internal/bytealg.IndexString"], unfollowed := true, recurses := true, named := ["transposal/day.months", "internal/strconv.uint64pow10", "math/bits.deBruijn32tab", "math/bits.deBruijn64tab", "internal/bytealg.MaxLen", "strconv.ErrSyntax", "strconv.ErrRange"], apart := false, laid := [("math/bits.deBruijn32tab", laid_math_bits_deBruijn32tab), ("math/bits.deBruijn64tab", laid_math_bits_deBruijn64tab), ("internal/strconv.uint64pow10", laid_internal_strconv_uint64pow10), ("strconv.ErrRange", laid_strconv_ErrRange), ("strconv.ErrSyntax", laid_strconv_ErrSyntax), ("transposal/day.months", laid_transposal_day_months)], narrowed := true }
def CalendarWholeUptoSaid : Prop := calendarWholeUptoRow.holds Tryz.pinned (OpenSpec.upto calendarWholeSpec)

/-- 'transposallaw08.CalendarPeriods', WHERE WHAT IT READS IS OF BULK AT MOST 1048576: true; the input reads as it did. -/
def calendarPeriodsUptoRow : OpenClaim := { program := "ytfpfilmdlconhaagreatdoor", sum := "78fbd26ba66e09b175d0cca97e2f74f2bd95b65718551ba36252e91c0de929d6", func := "transposal/transposallaw08.CalendarPeriods", spec := "calendarPeriods", inPlace := ["slices.overlaps[uint16]", "internal/abi.NoEscape", "internal/bytealg.MakeNoZero", "internal/bytealg.IndexByteString", "internal/bytealg.IndexString"], unfollowed := true, recurses := true, named := ["transposal/day.months", "internal/strconv.uint64pow10", "math/bits.deBruijn32tab", "math/bits.deBruijn64tab", "internal/bytealg.MaxLen", "strconv.ErrSyntax", "strconv.ErrRange"], apart := false, laid := [("math/bits.deBruijn32tab", laid_math_bits_deBruijn32tab), ("math/bits.deBruijn64tab", laid_math_bits_deBruijn64tab), ("internal/strconv.uint64pow10", laid_internal_strconv_uint64pow10), ("strconv.ErrRange", laid_strconv_ErrRange), ("strconv.ErrSyntax", laid_strconv_ErrSyntax), ("transposal/day.months", laid_transposal_day_months)], narrowed := true }
def CalendarPeriodsUptoSaid : Prop := calendarPeriodsUptoRow.holds Tryz.pinned (OpenSpec.upto calendarPeriodsSpec)

/-- 'transposallaw08.CalendarChecks', WHERE WHAT IT READS IS OF BULK AT MOST 1048576: true; the input reads as it did. -/
def calendarChecksUptoRow : OpenClaim := { program := "ytfpfilmdlconhaagreatdoor", sum := "78fbd26ba66e09b175d0cca97e2f74f2bd95b65718551ba36252e91c0de929d6", func := "transposal/transposallaw08.CalendarChecks", spec := "calendarChecks", inPlace := ["slices.overlaps[uint16]", "internal/abi.NoEscape", "internal/bytealg.MakeNoZero", "internal/bytealg.IndexByteString", "internal/bytealg.IndexString"], unfollowed := true, recurses := true, named := ["transposal/day.months", "internal/strconv.uint64pow10", "math/bits.deBruijn32tab", "math/bits.deBruijn64tab", "internal/bytealg.MaxLen", "strconv.ErrSyntax", "strconv.ErrRange"], apart := false, laid := [("math/bits.deBruijn32tab", laid_math_bits_deBruijn32tab), ("math/bits.deBruijn64tab", laid_math_bits_deBruijn64tab), ("internal/strconv.uint64pow10", laid_internal_strconv_uint64pow10), ("strconv.ErrRange", laid_strconv_ErrRange), ("strconv.ErrSyntax", laid_strconv_ErrSyntax), ("transposal/day.months", laid_transposal_day_months)], narrowed := true }
def CalendarChecksUptoSaid : Prop := calendarChecksUptoRow.holds Tryz.pinned (OpenSpec.upto calendarChecksSpec)

/-- 'transposallaw08.CalendarShift', WHERE WHAT IT READS IS OF BULK AT MOST 1048576: true; the input reads as it did. -/
def calendarShiftUptoRow : OpenClaim := { program := "ytfpfilmdlconhaagreatdoor", sum := "78fbd26ba66e09b175d0cca97e2f74f2bd95b65718551ba36252e91c0de929d6", func := "transposal/transposallaw08.CalendarShift", spec := "calendarShift", inPlace := ["slices.overlaps[uint16]", "internal/abi.NoEscape", "internal/bytealg.MakeNoZero", "internal/bytealg.IndexByteString", "internal/bytealg.IndexString"], unfollowed := true, recurses := true, named := ["transposal/day.months", "internal/strconv.uint64pow10", "math/bits.deBruijn32tab", "math/bits.deBruijn64tab", "internal/bytealg.MaxLen", "strconv.ErrSyntax", "strconv.ErrRange"], apart := false, laid := [("math/bits.deBruijn32tab", laid_math_bits_deBruijn32tab), ("math/bits.deBruijn64tab", laid_math_bits_deBruijn64tab), ("internal/strconv.uint64pow10", laid_internal_strconv_uint64pow10), ("strconv.ErrRange", laid_strconv_ErrRange), ("strconv.ErrSyntax", laid_strconv_ErrSyntax), ("transposal/day.months", laid_transposal_day_months)], narrowed := true }
def CalendarShiftUptoSaid : Prop := calendarShiftUptoRow.holds Tryz.pinned (OpenSpec.upto calendarShiftSpec)

/-- 'transposallaw07.UnitMany', WHERE WHAT IT READS IS OF BULK AT MOST 1048576: true; the input reads as it did. -/
def unitManyUptoRow : OpenClaim := { program := "ytfpfilmdlconhaagreatdoor", sum := "78fbd26ba66e09b175d0cca97e2f74f2bd95b65718551ba36252e91c0de929d6", func := "transposal/transposallaw07.UnitMany", spec := "unitMany", inPlace := ["slices.overlaps[uint16]", "internal/abi.NoEscape", "internal/bytealg.MakeNoZero", "internal/bytealg.IndexByteString", "internal/bytealg.IndexString"], unfollowed := true, recurses := true, named := ["transposal/day.months", "internal/strconv.uint64pow10", "math/bits.deBruijn32tab", "math/bits.deBruijn64tab", "internal/bytealg.MaxLen", "strconv.ErrSyntax", "strconv.ErrRange"], apart := false, laid := [("math/bits.deBruijn32tab", laid_math_bits_deBruijn32tab), ("math/bits.deBruijn64tab", laid_math_bits_deBruijn64tab), ("internal/strconv.uint64pow10", laid_internal_strconv_uint64pow10), ("strconv.ErrRange", laid_strconv_ErrRange), ("strconv.ErrSyntax", laid_strconv_ErrSyntax), ("transposal/day.months", laid_transposal_day_months)], narrowed := true }
def UnitManyUptoSaid : Prop := unitManyUptoRow.holds Tryz.pinned (OpenSpec.upto unitManySpec)

/-- 'transposallaw07.UnitChecks', WHERE WHAT IT READS IS OF BULK AT MOST 1048576: true; the input reads as it did. -/
def unitChecksUptoRow : OpenClaim := { program := "ytfpfilmdlconhaagreatdoor", sum := "78fbd26ba66e09b175d0cca97e2f74f2bd95b65718551ba36252e91c0de929d6", func := "transposal/transposallaw07.UnitChecks", spec := "unitChecks", inPlace := ["slices.overlaps[uint16]", "internal/abi.NoEscape", "internal/bytealg.MakeNoZero", "internal/bytealg.IndexByteString", "internal/bytealg.IndexString"], unfollowed := true, recurses := true, named := ["transposal/day.months", "internal/strconv.uint64pow10", "math/bits.deBruijn32tab", "math/bits.deBruijn64tab", "internal/bytealg.MaxLen", "strconv.ErrSyntax", "strconv.ErrRange"], apart := false, laid := [("math/bits.deBruijn32tab", laid_math_bits_deBruijn32tab), ("math/bits.deBruijn64tab", laid_math_bits_deBruijn64tab), ("internal/strconv.uint64pow10", laid_internal_strconv_uint64pow10), ("strconv.ErrRange", laid_strconv_ErrRange), ("strconv.ErrSyntax", laid_strconv_ErrSyntax), ("transposal/day.months", laid_transposal_day_months)], narrowed := true }
def UnitChecksUptoSaid : Prop := unitChecksUptoRow.holds Tryz.pinned (OpenSpec.upto unitChecksSpec)

/-- 'transposallaw07.UnitTurns', WHERE WHAT IT READS IS OF BULK AT MOST 1048576: true; the input reads as it did. -/
def unitTurnsUptoRow : OpenClaim := { program := "ytfpfilmdlconhaagreatdoor", sum := "78fbd26ba66e09b175d0cca97e2f74f2bd95b65718551ba36252e91c0de929d6", func := "transposal/transposallaw07.UnitTurns", spec := "unitTurns", inPlace := ["slices.overlaps[uint16]", "internal/abi.NoEscape", "internal/bytealg.MakeNoZero", "internal/bytealg.IndexByteString", "internal/bytealg.IndexString"], unfollowed := true, recurses := true, named := ["transposal/day.months", "internal/strconv.uint64pow10", "math/bits.deBruijn32tab", "math/bits.deBruijn64tab", "internal/bytealg.MaxLen", "strconv.ErrSyntax", "strconv.ErrRange"], apart := false, laid := [("math/bits.deBruijn32tab", laid_math_bits_deBruijn32tab), ("math/bits.deBruijn64tab", laid_math_bits_deBruijn64tab), ("internal/strconv.uint64pow10", laid_internal_strconv_uint64pow10), ("strconv.ErrRange", laid_strconv_ErrRange), ("strconv.ErrSyntax", laid_strconv_ErrSyntax), ("transposal/day.months", laid_transposal_day_months)], narrowed := true }
def UnitTurnsUptoSaid : Prop := unitTurnsUptoRow.holds Tryz.pinned (OpenSpec.upto unitTurnsSpec)

/-- 'transposallaw07.UnitBack', WHERE WHAT IT READS IS OF BULK AT MOST 1048576: true; the input reads as it did. -/
def unitBackUptoRow : OpenClaim := { program := "ytfpfilmdlconhaagreatdoor", sum := "78fbd26ba66e09b175d0cca97e2f74f2bd95b65718551ba36252e91c0de929d6", func := "transposal/transposallaw07.UnitBack", spec := "unitBack", inPlace := ["slices.overlaps[uint16]", "internal/abi.NoEscape", "internal/bytealg.MakeNoZero", "internal/bytealg.IndexByteString", "internal/bytealg.IndexString"], unfollowed := true, recurses := true, named := ["transposal/day.months", "internal/strconv.uint64pow10", "math/bits.deBruijn32tab", "math/bits.deBruijn64tab", "internal/bytealg.MaxLen", "strconv.ErrSyntax", "strconv.ErrRange"], apart := false, laid := [("math/bits.deBruijn32tab", laid_math_bits_deBruijn32tab), ("math/bits.deBruijn64tab", laid_math_bits_deBruijn64tab), ("internal/strconv.uint64pow10", laid_internal_strconv_uint64pow10), ("strconv.ErrRange", laid_strconv_ErrRange), ("strconv.ErrSyntax", laid_strconv_ErrSyntax), ("transposal/day.months", laid_transposal_day_months)], narrowed := true }
def UnitBackUptoSaid : Prop := unitBackUptoRow.holds Tryz.pinned (OpenSpec.upto unitBackSpec)

end Rows
end Go.Proofs.YtfpfilmdlconhaaGreatDoor
