/-
  NARROWER THAN 'FOR EVERY INPUT', by the rows' own cells (each row's printed sentence says how): ClassTells: laid · ClassParts: laid · ClassTouches: laid · ImageOf: laid · ImageAll: laid · ImageSums: laid · ImageParts: laid · ImageBack: laid.
  DERIVED. THE GIVEN ROWS OF THIS SEAT. 8 by the template 'for every input the law returns true; each argument reads behind the call as it read before'; 0 by the template 'total and deterministic' (their statements: YthabndifdgafbaaGreatDoorTotals.lean).
  GIVEN WITH THE SEED: the statements are not yours to turn. If you find one false, say at which input.
  Laid BY PROGRAM, IN A SANDBOX (cutbox-rows.mjs): the forced cells as the released guide's own fill.sh prints them over the translation 45fd450e7f472f59… (all of the seat's roots in one cut). By AI agents, Wed Nov 11 2026. No macro, syntax, notation, axiom, sorry.
-/
import Derived.Test.YthabndifdgafbaaGreatDoorChecked
import GoSem.Claim
import GoSem.ClaimJoined
import GoSem.ClaimMapViews
import Derived.JoinedTies
import Derived.KernelRfl
namespace Go.Proofs.YthabndifdgafbaaGreatDoor
/- THE CELL 'sum', in the pinned program and in every row, IS THE sha256 OF THE DUMP (.gsa) THAT YthabndifdgafbaaGreatDoorProg.lean LOADS. Nothing in Lean hashes anything: it is a label: what it is worth is what the hold of that sum in a sandbox is worth. -/
noncomputable def Tryz.pinned : Pinned := { name := "ythabndifdgafbaagreatdoor", sum := "45fd450e7f472f594ce6600660dd0083f5970baa59f7d988d80bbb400008a47e", checked := Tryz.checked }
namespace Rows
def none {H : Type} : Left H := { results := [], args := [] }

/- WHAT THE LISTED PACKAGE-LEVEL VARIABLES READ AS WHEN THE CALL BEGINS. Each datum BY PROGRAM (the guide's laid-datum.mjs) off the statement by which the dump's own 'gosem.cut.vars' lays the variable. In a bare row this is a premise. The card (YthabndifdgafbaaGreatDoorCards.lean) ties it to the program's text. -/
def laid_math_bits_deBruijn32tab {H : Type} : DataW H := .agg [.lit (.int .u8 0), .lit (.int .u8 1), .lit (.int .u8 28), .lit (.int .u8 2), .lit (.int .u8 29), .lit (.int .u8 14), .lit (.int .u8 24), .lit (.int .u8 3), .lit (.int .u8 30), .lit (.int .u8 22), .lit (.int .u8 20), .lit (.int .u8 15), .lit (.int .u8 25), .lit (.int .u8 17), .lit (.int .u8 4), .lit (.int .u8 8), .lit (.int .u8 31), .lit (.int .u8 27), .lit (.int .u8 13), .lit (.int .u8 23), .lit (.int .u8 21), .lit (.int .u8 19), .lit (.int .u8 16), .lit (.int .u8 7), .lit (.int .u8 26), .lit (.int .u8 12), .lit (.int .u8 18), .lit (.int .u8 6), .lit (.int .u8 11), .lit (.int .u8 5), .lit (.int .u8 10), .lit (.int .u8 9)]
def laid_math_bits_deBruijn64tab {H : Type} : DataW H := .agg [.lit (.int .u8 0), .lit (.int .u8 1), .lit (.int .u8 56), .lit (.int .u8 2), .lit (.int .u8 57), .lit (.int .u8 49), .lit (.int .u8 28), .lit (.int .u8 3), .lit (.int .u8 61), .lit (.int .u8 58), .lit (.int .u8 42), .lit (.int .u8 50), .lit (.int .u8 38), .lit (.int .u8 29), .lit (.int .u8 17), .lit (.int .u8 4), .lit (.int .u8 62), .lit (.int .u8 47), .lit (.int .u8 59), .lit (.int .u8 36), .lit (.int .u8 45), .lit (.int .u8 43), .lit (.int .u8 51), .lit (.int .u8 22), .lit (.int .u8 53), .lit (.int .u8 39), .lit (.int .u8 33), .lit (.int .u8 30), .lit (.int .u8 24), .lit (.int .u8 18), .lit (.int .u8 12), .lit (.int .u8 5), .lit (.int .u8 63), .lit (.int .u8 55), .lit (.int .u8 48), .lit (.int .u8 27), .lit (.int .u8 60), .lit (.int .u8 41), .lit (.int .u8 37), .lit (.int .u8 16), .lit (.int .u8 46), .lit (.int .u8 35), .lit (.int .u8 44), .lit (.int .u8 21), .lit (.int .u8 52), .lit (.int .u8 32), .lit (.int .u8 23), .lit (.int .u8 11), .lit (.int .u8 54), .lit (.int .u8 26), .lit (.int .u8 40), .lit (.int .u8 15), .lit (.int .u8 34), .lit (.int .u8 20), .lit (.int .u8 31), .lit (.int .u8 10), .lit (.int .u8 25), .lit (.int .u8 14), .lit (.int .u8 19), .lit (.int .u8 9), .lit (.int .u8 13), .lit (.int .u8 8), .lit (.int .u8 7), .lit (.int .u8 6)]
def laid_internal_strconv_uint64pow10 {H : Type} : DataW H := .agg [.lit (.int .u64 1), .lit (.int .u64 10), .lit (.int .u64 100), .lit (.int .u64 1000), .lit (.int .u64 10000), .lit (.int .u64 100000), .lit (.int .u64 1000000), .lit (.int .u64 10000000), .lit (.int .u64 100000000), .lit (.int .u64 1000000000), .lit (.int .u64 10000000000), .lit (.int .u64 100000000000), .lit (.int .u64 1000000000000), .lit (.int .u64 10000000000000), .lit (.int .u64 100000000000000), .lit (.int .u64 1000000000000000), .lit (.int .u64 10000000000000000), .lit (.int .u64 100000000000000000), .lit (.int .u64 1000000000000000000), .lit (.int .u64 10000000000000000000)]
def laid_strconv_ErrRange {H : Type} : DataW H := .iface "*errors.errorString" (.ptr (.agg [.lit (.string [118, 97, 108, 117, 101, 32, 111, 117, 116, 32, 111, 102, 32, 114, 97, 110, 103, 101])]))
def laid_strconv_ErrSyntax {H : Type} : DataW H := .iface "*errors.errorString" (.ptr (.agg [.lit (.string [105, 110, 118, 97, 108, 105, 100, 32, 115, 121, 110, 116, 97, 120])]))
def laid_transposal_day_months {H : Type} : DataW H := .agg [.lit (.int .i64 31), .lit (.int .i64 28), .lit (.int .i64 31), .lit (.int .i64 30), .lit (.int .i64 31), .lit (.int .i64 30), .lit (.int .i64 31), .lit (.int .i64 31), .lit (.int .i64 30), .lit (.int .i64 31), .lit (.int .i64 30), .lit (.int .i64 31)]
def laid_transposal_script_words {H : Type} : DataW H := .agg [.agg [.lit (.string [114, 101, 110, 117, 109, 98, 101, 114]), .lit (.string [116, 111])], .agg [.lit (.string [114, 101, 110, 97, 109, 101]), .lit (.string [])], .agg [.lit (.string [114, 101, 112, 97, 114, 101, 110, 116]), .lit (.string [117, 110, 100, 101, 114])], .agg [.lit (.string [109, 101, 114, 103, 101]), .lit (.string [105, 110, 116, 111])], .agg [.lit (.string [115, 112, 108, 105, 116]), .lit (.string [105, 110, 116, 111])], .agg [.lit (.string [114, 101, 99, 111, 100, 101]), .lit (.string [116, 111])], .agg [.lit (.string [106, 111, 105, 110]), .lit (.string [105, 110, 116, 111])], .agg [.lit (.string [99, 97, 108, 101, 110, 100, 97, 114]), .lit (.string [117, 110, 116, 105, 108])]]

/-- 'transposallaw16.ClassTells': WHATEVER THE INPUT: true; the input reads as it did. -/
def classTellsSpec : ChangeSpec := { name := "classTells", fn := fun _ => fun
  | [d] => { results := [.lit (.bool true)], args := [d] }
  | _ => none }
def classTellsRow : OpenClaim := { program := "ythabndifdgafbaagreatdoor", sum := "45fd450e7f472f594ce6600660dd0083f5970baa59f7d988d80bbb400008a47e", func := "transposal/transposallaw16.ClassTells", spec := "classTells", inPlace := ["slices.overlaps[uint16]", "slices.overlaps[transposal/chart.Account]", "internal/abi.NoEscape", "internal/bytealg.MakeNoZero", "internal/bytealg.IndexByteString", "internal/bytealg.IndexString"], unfollowed := true, recurses := true, named := ["transposal/day.months", "internal/strconv.uint64pow10", "math/bits.deBruijn32tab", "math/bits.deBruijn64tab", "internal/bytealg.MaxLen", "strconv.ErrSyntax", "strconv.ErrRange", "transposal/script.words"], apart := false, laid := [("math/bits.deBruijn32tab", laid_math_bits_deBruijn32tab), ("math/bits.deBruijn64tab", laid_math_bits_deBruijn64tab), ("internal/strconv.uint64pow10", laid_internal_strconv_uint64pow10), ("strconv.ErrRange", laid_strconv_ErrRange), ("strconv.ErrSyntax", laid_strconv_ErrSyntax), ("transposal/day.months", laid_transposal_day_months), ("transposal/script.words", laid_transposal_script_words)] }
def ClassTellsSaid : Prop := classTellsRow.holds Tryz.pinned (OpenSpec.ofChange classTellsSpec)

/-- ITS FALSE NEIGHBOUR: 'it returns false'. Refute it at one input. -/
def classTellsWrong : ChangeSpec := { name := "classTells", fn := fun _ => fun
  | [d] => { results := [.lit (.bool false)], args := [d] }
  | _ => none }
def ClassTellsWrongFalsely : Prop := classTellsRow.holds Tryz.pinned (OpenSpec.ofChange classTellsWrong)

/-- 'transposallaw16.ClassParts': WHATEVER THE INPUT: true; the input reads as it did. -/
def classPartsSpec : ChangeSpec := { name := "classParts", fn := fun _ => fun
  | [d1, d2] => { results := [.lit (.bool true)], args := [d1, d2] }
  | _ => none }
def classPartsRow : OpenClaim := { program := "ythabndifdgafbaagreatdoor", sum := "45fd450e7f472f594ce6600660dd0083f5970baa59f7d988d80bbb400008a47e", func := "transposal/transposallaw16.ClassParts", spec := "classParts", inPlace := ["slices.overlaps[uint16]", "slices.overlaps[transposal/chart.Account]", "internal/abi.NoEscape", "internal/bytealg.MakeNoZero", "internal/bytealg.IndexByteString", "internal/bytealg.IndexString"], unfollowed := true, recurses := true, named := ["transposal/day.months", "internal/strconv.uint64pow10", "math/bits.deBruijn32tab", "math/bits.deBruijn64tab", "internal/bytealg.MaxLen", "strconv.ErrSyntax", "strconv.ErrRange", "transposal/script.words"], apart := false, laid := [("math/bits.deBruijn32tab", laid_math_bits_deBruijn32tab), ("math/bits.deBruijn64tab", laid_math_bits_deBruijn64tab), ("internal/strconv.uint64pow10", laid_internal_strconv_uint64pow10), ("strconv.ErrRange", laid_strconv_ErrRange), ("strconv.ErrSyntax", laid_strconv_ErrSyntax), ("transposal/day.months", laid_transposal_day_months), ("transposal/script.words", laid_transposal_script_words)] }
def ClassPartsSaid : Prop := classPartsRow.holds Tryz.pinned (OpenSpec.ofChange classPartsSpec)

/-- ITS FALSE NEIGHBOUR: 'it returns false'. Refute it at one input. -/
def classPartsWrong : ChangeSpec := { name := "classParts", fn := fun _ => fun
  | [d1, d2] => { results := [.lit (.bool false)], args := [d1, d2] }
  | _ => none }
def ClassPartsWrongFalsely : Prop := classPartsRow.holds Tryz.pinned (OpenSpec.ofChange classPartsWrong)

/-- 'transposallaw16.ClassTouches': WHATEVER THE INPUT: true; the input reads as it did. -/
def classTouchesSpec : ChangeSpec := { name := "classTouches", fn := fun _ => fun
  | [d1, d2, d3] => { results := [.lit (.bool true)], args := [d1, d2, d3] }
  | _ => none }
def classTouchesRow : OpenClaim := { program := "ythabndifdgafbaagreatdoor", sum := "45fd450e7f472f594ce6600660dd0083f5970baa59f7d988d80bbb400008a47e", func := "transposal/transposallaw16.ClassTouches", spec := "classTouches", inPlace := ["slices.overlaps[uint16]", "slices.overlaps[transposal/chart.Account]", "internal/abi.NoEscape", "internal/bytealg.MakeNoZero", "internal/bytealg.IndexByteString", "internal/bytealg.IndexString"], unfollowed := true, recurses := true, named := ["transposal/day.months", "internal/strconv.uint64pow10", "math/bits.deBruijn32tab", "math/bits.deBruijn64tab", "internal/bytealg.MaxLen", "strconv.ErrSyntax", "strconv.ErrRange", "transposal/script.words"], apart := false, laid := [("math/bits.deBruijn32tab", laid_math_bits_deBruijn32tab), ("math/bits.deBruijn64tab", laid_math_bits_deBruijn64tab), ("internal/strconv.uint64pow10", laid_internal_strconv_uint64pow10), ("strconv.ErrRange", laid_strconv_ErrRange), ("strconv.ErrSyntax", laid_strconv_ErrSyntax), ("transposal/day.months", laid_transposal_day_months), ("transposal/script.words", laid_transposal_script_words)] }
def ClassTouchesSaid : Prop := classTouchesRow.holds Tryz.pinned (OpenSpec.ofChange classTouchesSpec)

/-- ITS FALSE NEIGHBOUR: 'it returns false'. Refute it at one input. -/
def classTouchesWrong : ChangeSpec := { name := "classTouches", fn := fun _ => fun
  | [d1, d2, d3] => { results := [.lit (.bool false)], args := [d1, d2, d3] }
  | _ => none }
def ClassTouchesWrongFalsely : Prop := classTouchesRow.holds Tryz.pinned (OpenSpec.ofChange classTouchesWrong)

/-- 'transposallaw17.ImageOf': WHATEVER THE INPUT: true; the input reads as it did. -/
def imageOfSpec : ChangeSpec := { name := "imageOf", fn := fun _ => fun
  | [d1, d2, d3] => { results := [.lit (.bool true)], args := [d1, d2, d3] }
  | _ => none }
def imageOfRow : OpenClaim := { program := "ythabndifdgafbaagreatdoor", sum := "45fd450e7f472f594ce6600660dd0083f5970baa59f7d988d80bbb400008a47e", func := "transposal/transposallaw17.ImageOf", spec := "imageOf", inPlace := ["slices.overlaps[uint16]", "slices.overlaps[transposal/chart.Account]", "internal/abi.NoEscape", "internal/bytealg.MakeNoZero", "internal/bytealg.IndexByteString", "internal/bytealg.IndexString"], unfollowed := true, recurses := true, named := ["transposal/day.months", "internal/strconv.uint64pow10", "math/bits.deBruijn32tab", "math/bits.deBruijn64tab", "internal/bytealg.MaxLen", "strconv.ErrSyntax", "strconv.ErrRange", "transposal/script.words"], apart := false, laid := [("math/bits.deBruijn32tab", laid_math_bits_deBruijn32tab), ("math/bits.deBruijn64tab", laid_math_bits_deBruijn64tab), ("internal/strconv.uint64pow10", laid_internal_strconv_uint64pow10), ("strconv.ErrRange", laid_strconv_ErrRange), ("strconv.ErrSyntax", laid_strconv_ErrSyntax), ("transposal/day.months", laid_transposal_day_months), ("transposal/script.words", laid_transposal_script_words)] }
def ImageOfSaid : Prop := imageOfRow.holds Tryz.pinned (OpenSpec.ofChange imageOfSpec)

/-- ITS FALSE NEIGHBOUR: 'it returns false'. Refute it at one input. -/
def imageOfWrong : ChangeSpec := { name := "imageOf", fn := fun _ => fun
  | [d1, d2, d3] => { results := [.lit (.bool false)], args := [d1, d2, d3] }
  | _ => none }
def ImageOfWrongFalsely : Prop := imageOfRow.holds Tryz.pinned (OpenSpec.ofChange imageOfWrong)

/-- 'transposallaw17.ImageAll': WHATEVER THE INPUT: true; the input reads as it did. -/
def imageAllSpec : ChangeSpec := { name := "imageAll", fn := fun _ => fun
  | [d1, d2] => { results := [.lit (.bool true)], args := [d1, d2] }
  | _ => none }
def imageAllRow : OpenClaim := { program := "ythabndifdgafbaagreatdoor", sum := "45fd450e7f472f594ce6600660dd0083f5970baa59f7d988d80bbb400008a47e", func := "transposal/transposallaw17.ImageAll", spec := "imageAll", inPlace := ["slices.overlaps[uint16]", "slices.overlaps[transposal/chart.Account]", "internal/abi.NoEscape", "internal/bytealg.MakeNoZero", "internal/bytealg.IndexByteString", "internal/bytealg.IndexString"], unfollowed := true, recurses := true, named := ["transposal/day.months", "internal/strconv.uint64pow10", "math/bits.deBruijn32tab", "math/bits.deBruijn64tab", "internal/bytealg.MaxLen", "strconv.ErrSyntax", "strconv.ErrRange", "transposal/script.words"], apart := false, laid := [("math/bits.deBruijn32tab", laid_math_bits_deBruijn32tab), ("math/bits.deBruijn64tab", laid_math_bits_deBruijn64tab), ("internal/strconv.uint64pow10", laid_internal_strconv_uint64pow10), ("strconv.ErrRange", laid_strconv_ErrRange), ("strconv.ErrSyntax", laid_strconv_ErrSyntax), ("transposal/day.months", laid_transposal_day_months), ("transposal/script.words", laid_transposal_script_words)] }
def ImageAllSaid : Prop := imageAllRow.holds Tryz.pinned (OpenSpec.ofChange imageAllSpec)

/-- ITS FALSE NEIGHBOUR: 'it returns false'. Refute it at one input. -/
def imageAllWrong : ChangeSpec := { name := "imageAll", fn := fun _ => fun
  | [d1, d2] => { results := [.lit (.bool false)], args := [d1, d2] }
  | _ => none }
def ImageAllWrongFalsely : Prop := imageAllRow.holds Tryz.pinned (OpenSpec.ofChange imageAllWrong)

/-- 'transposallaw17.ImageSums': WHATEVER THE INPUT: true; the input reads as it did. -/
def imageSumsSpec : ChangeSpec := { name := "imageSums", fn := fun _ => fun
  | [d1, d2] => { results := [.lit (.bool true)], args := [d1, d2] }
  | _ => none }
def imageSumsRow : OpenClaim := { program := "ythabndifdgafbaagreatdoor", sum := "45fd450e7f472f594ce6600660dd0083f5970baa59f7d988d80bbb400008a47e", func := "transposal/transposallaw17.ImageSums", spec := "imageSums", inPlace := ["slices.overlaps[uint16]", "slices.overlaps[transposal/chart.Account]", "internal/abi.NoEscape", "internal/bytealg.MakeNoZero", "internal/bytealg.IndexByteString", "internal/bytealg.IndexString"], unfollowed := true, recurses := true, named := ["transposal/day.months", "internal/strconv.uint64pow10", "math/bits.deBruijn32tab", "math/bits.deBruijn64tab", "internal/bytealg.MaxLen", "strconv.ErrSyntax", "strconv.ErrRange", "transposal/script.words"], apart := false, laid := [("math/bits.deBruijn32tab", laid_math_bits_deBruijn32tab), ("math/bits.deBruijn64tab", laid_math_bits_deBruijn64tab), ("internal/strconv.uint64pow10", laid_internal_strconv_uint64pow10), ("strconv.ErrRange", laid_strconv_ErrRange), ("strconv.ErrSyntax", laid_strconv_ErrSyntax), ("transposal/day.months", laid_transposal_day_months), ("transposal/script.words", laid_transposal_script_words)] }
def ImageSumsSaid : Prop := imageSumsRow.holds Tryz.pinned (OpenSpec.ofChange imageSumsSpec)

/-- ITS FALSE NEIGHBOUR: 'it returns false'. Refute it at one input. -/
def imageSumsWrong : ChangeSpec := { name := "imageSums", fn := fun _ => fun
  | [d1, d2] => { results := [.lit (.bool false)], args := [d1, d2] }
  | _ => none }
def ImageSumsWrongFalsely : Prop := imageSumsRow.holds Tryz.pinned (OpenSpec.ofChange imageSumsWrong)

/-- 'transposallaw17.ImageParts': WHATEVER THE INPUT: true; the input reads as it did. -/
def imagePartsSpec : ChangeSpec := { name := "imageParts", fn := fun _ => fun
  | [d1, d2, d3] => { results := [.lit (.bool true)], args := [d1, d2, d3] }
  | _ => none }
def imagePartsRow : OpenClaim := { program := "ythabndifdgafbaagreatdoor", sum := "45fd450e7f472f594ce6600660dd0083f5970baa59f7d988d80bbb400008a47e", func := "transposal/transposallaw17.ImageParts", spec := "imageParts", inPlace := ["slices.overlaps[uint16]", "slices.overlaps[transposal/chart.Account]", "internal/abi.NoEscape", "internal/bytealg.MakeNoZero", "internal/bytealg.IndexByteString", "internal/bytealg.IndexString"], unfollowed := true, recurses := true, named := ["transposal/day.months", "internal/strconv.uint64pow10", "math/bits.deBruijn32tab", "math/bits.deBruijn64tab", "internal/bytealg.MaxLen", "strconv.ErrSyntax", "strconv.ErrRange", "transposal/script.words"], apart := false, laid := [("math/bits.deBruijn32tab", laid_math_bits_deBruijn32tab), ("math/bits.deBruijn64tab", laid_math_bits_deBruijn64tab), ("internal/strconv.uint64pow10", laid_internal_strconv_uint64pow10), ("strconv.ErrRange", laid_strconv_ErrRange), ("strconv.ErrSyntax", laid_strconv_ErrSyntax), ("transposal/day.months", laid_transposal_day_months), ("transposal/script.words", laid_transposal_script_words)] }
def ImagePartsSaid : Prop := imagePartsRow.holds Tryz.pinned (OpenSpec.ofChange imagePartsSpec)

/-- ITS FALSE NEIGHBOUR: 'it returns false'. Refute it at one input. -/
def imagePartsWrong : ChangeSpec := { name := "imageParts", fn := fun _ => fun
  | [d1, d2, d3] => { results := [.lit (.bool false)], args := [d1, d2, d3] }
  | _ => none }
def ImagePartsWrongFalsely : Prop := imagePartsRow.holds Tryz.pinned (OpenSpec.ofChange imagePartsWrong)

/-- 'transposallaw17.ImageBack': WHATEVER THE INPUT: true; the input reads as it did. -/
def imageBackSpec : ChangeSpec := { name := "imageBack", fn := fun _ => fun
  | [d1, d2, d3] => { results := [.lit (.bool true)], args := [d1, d2, d3] }
  | _ => none }
def imageBackRow : OpenClaim := { program := "ythabndifdgafbaagreatdoor", sum := "45fd450e7f472f594ce6600660dd0083f5970baa59f7d988d80bbb400008a47e", func := "transposal/transposallaw17.ImageBack", spec := "imageBack", inPlace := ["slices.overlaps[uint16]", "slices.overlaps[transposal/chart.Account]", "internal/abi.NoEscape", "internal/bytealg.MakeNoZero", "internal/bytealg.IndexByteString", "internal/bytealg.IndexString"], unfollowed := true, recurses := true, named := ["transposal/day.months", "internal/strconv.uint64pow10", "math/bits.deBruijn32tab", "math/bits.deBruijn64tab", "internal/bytealg.MaxLen", "strconv.ErrSyntax", "strconv.ErrRange", "transposal/script.words"], apart := false, laid := [("math/bits.deBruijn32tab", laid_math_bits_deBruijn32tab), ("math/bits.deBruijn64tab", laid_math_bits_deBruijn64tab), ("internal/strconv.uint64pow10", laid_internal_strconv_uint64pow10), ("strconv.ErrRange", laid_strconv_ErrRange), ("strconv.ErrSyntax", laid_strconv_ErrSyntax), ("transposal/day.months", laid_transposal_day_months), ("transposal/script.words", laid_transposal_script_words)] }
def ImageBackSaid : Prop := imageBackRow.holds Tryz.pinned (OpenSpec.ofChange imageBackSpec)

/-- ITS FALSE NEIGHBOUR: 'it returns false'. Refute it at one input. -/
def imageBackWrong : ChangeSpec := { name := "imageBack", fn := fun _ => fun
  | [d1, d2, d3] => { results := [.lit (.bool false)], args := [d1, d2, d3] }
  | _ => none }
def ImageBackWrongFalsely : Prop := imageBackRow.holds Tryz.pinned (OpenSpec.ofChange imageBackWrong)

/- THE SECOND FORM. 'bulk': how many values and letters a reading holds, each counted each time it is reached (what is shared counts as often as it is met; a slice's spare places count too). A statement '..UptoSaid' is the law's where the arguments, and the package variables that the reading takes, are together of bulk at most 1048576: NARROWER than '..Said'. Prove '..Said' where nothing that the law and all that it calls make is longer than what came in: it says more and counts as full. Else prove '..UptoSaid'. A law counts once. -/
mutual
def uptoBulk {H : Type} : DataW H → Nat
  | .lit (.string bytes) => bytes.length + 1
  | .lit _ => 1
  | .nil => 1
  | .ptr d => uptoBulk d + 1
  | .slice elems spare => uptoBulkAll elems + uptoBulkAll spare + 1
  | .agg parts => uptoBulkAll parts + 1
  | .iface _ d => uptoBulk d + 1
  | .map entries => uptoBulkEntries entries + 1
  | .held _ => 1
def uptoBulkAll {H : Type} : List (DataW H) → Nat
  | [] => 0
  | d :: r => uptoBulk d + uptoBulkAll r
def uptoBulkEntries {H : Type} : List (Lit × DataW H) → Nat
  | [] => 0
  | x :: r => uptoBulkEntry x + uptoBulkEntries r
def uptoBulkEntry {H : Type} : Lit × DataW H → Nat
  | (.string bytes, d) => bytes.length + uptoBulk d + 1
  | (_, d) => uptoBulk d + 1
 end
def uptoSmall : (H : Type) → List (DataW H) → Bool := fun _ ds => decide (uptoBulkAll ds ≤ 1048576)
def OpenSpec.upto (s : _root_.Go.ChangeSpec) : _root_.Go.OpenSpec := { _root_.Go.OpenSpec.ofChange s with cond := some uptoSmall }

/-- 'transposallaw16.ClassTells', WHERE WHAT IT READS IS OF BULK AT MOST 1048576: true; the input reads as it did. -/
def classTellsUptoRow : OpenClaim := { program := "ythabndifdgafbaagreatdoor", sum := "45fd450e7f472f594ce6600660dd0083f5970baa59f7d988d80bbb400008a47e", func := "transposal/transposallaw16.ClassTells", spec := "classTells", inPlace := ["slices.overlaps[uint16]", "slices.overlaps[transposal/chart.Account]", "internal/abi.NoEscape", "internal/bytealg.MakeNoZero", "internal/bytealg.IndexByteString", "internal/bytealg.IndexString"], unfollowed := true, recurses := true, named := ["transposal/day.months", "internal/strconv.uint64pow10", "math/bits.deBruijn32tab", "math/bits.deBruijn64tab", "internal/bytealg.MaxLen", "strconv.ErrSyntax", "strconv.ErrRange", "transposal/script.words"], apart := false, laid := [("math/bits.deBruijn32tab", laid_math_bits_deBruijn32tab), ("math/bits.deBruijn64tab", laid_math_bits_deBruijn64tab), ("internal/strconv.uint64pow10", laid_internal_strconv_uint64pow10), ("strconv.ErrRange", laid_strconv_ErrRange), ("strconv.ErrSyntax", laid_strconv_ErrSyntax), ("transposal/day.months", laid_transposal_day_months), ("transposal/script.words", laid_transposal_script_words)], narrowed := true }
def ClassTellsUptoSaid : Prop := classTellsUptoRow.holds Tryz.pinned (OpenSpec.upto classTellsSpec)

/-- 'transposallaw16.ClassParts', WHERE WHAT IT READS IS OF BULK AT MOST 1048576: true; the input reads as it did. -/
def classPartsUptoRow : OpenClaim := { program := "ythabndifdgafbaagreatdoor", sum := "45fd450e7f472f594ce6600660dd0083f5970baa59f7d988d80bbb400008a47e", func := "transposal/transposallaw16.ClassParts", spec := "classParts", inPlace := ["slices.overlaps[uint16]", "slices.overlaps[transposal/chart.Account]", "internal/abi.NoEscape", "internal/bytealg.MakeNoZero", "internal/bytealg.IndexByteString", "internal/bytealg.IndexString"], unfollowed := true, recurses := true, named := ["transposal/day.months", "internal/strconv.uint64pow10", "math/bits.deBruijn32tab", "math/bits.deBruijn64tab", "internal/bytealg.MaxLen", "strconv.ErrSyntax", "strconv.ErrRange", "transposal/script.words"], apart := false, laid := [("math/bits.deBruijn32tab", laid_math_bits_deBruijn32tab), ("math/bits.deBruijn64tab", laid_math_bits_deBruijn64tab), ("internal/strconv.uint64pow10", laid_internal_strconv_uint64pow10), ("strconv.ErrRange", laid_strconv_ErrRange), ("strconv.ErrSyntax", laid_strconv_ErrSyntax), ("transposal/day.months", laid_transposal_day_months), ("transposal/script.words", laid_transposal_script_words)], narrowed := true }
def ClassPartsUptoSaid : Prop := classPartsUptoRow.holds Tryz.pinned (OpenSpec.upto classPartsSpec)

/-- 'transposallaw16.ClassTouches', WHERE WHAT IT READS IS OF BULK AT MOST 1048576: true; the input reads as it did. -/
def classTouchesUptoRow : OpenClaim := { program := "ythabndifdgafbaagreatdoor", sum := "45fd450e7f472f594ce6600660dd0083f5970baa59f7d988d80bbb400008a47e", func := "transposal/transposallaw16.ClassTouches", spec := "classTouches", inPlace := ["slices.overlaps[uint16]", "slices.overlaps[transposal/chart.Account]", "internal/abi.NoEscape", "internal/bytealg.MakeNoZero", "internal/bytealg.IndexByteString", "internal/bytealg.IndexString"], unfollowed := true, recurses := true, named := ["transposal/day.months", "internal/strconv.uint64pow10", "math/bits.deBruijn32tab", "math/bits.deBruijn64tab", "internal/bytealg.MaxLen", "strconv.ErrSyntax", "strconv.ErrRange", "transposal/script.words"], apart := false, laid := [("math/bits.deBruijn32tab", laid_math_bits_deBruijn32tab), ("math/bits.deBruijn64tab", laid_math_bits_deBruijn64tab), ("internal/strconv.uint64pow10", laid_internal_strconv_uint64pow10), ("strconv.ErrRange", laid_strconv_ErrRange), ("strconv.ErrSyntax", laid_strconv_ErrSyntax), ("transposal/day.months", laid_transposal_day_months), ("transposal/script.words", laid_transposal_script_words)], narrowed := true }
def ClassTouchesUptoSaid : Prop := classTouchesUptoRow.holds Tryz.pinned (OpenSpec.upto classTouchesSpec)

/-- 'transposallaw17.ImageOf', WHERE WHAT IT READS IS OF BULK AT MOST 1048576: true; the input reads as it did. -/
def imageOfUptoRow : OpenClaim := { program := "ythabndifdgafbaagreatdoor", sum := "45fd450e7f472f594ce6600660dd0083f5970baa59f7d988d80bbb400008a47e", func := "transposal/transposallaw17.ImageOf", spec := "imageOf", inPlace := ["slices.overlaps[uint16]", "slices.overlaps[transposal/chart.Account]", "internal/abi.NoEscape", "internal/bytealg.MakeNoZero", "internal/bytealg.IndexByteString", "internal/bytealg.IndexString"], unfollowed := true, recurses := true, named := ["transposal/day.months", "internal/strconv.uint64pow10", "math/bits.deBruijn32tab", "math/bits.deBruijn64tab", "internal/bytealg.MaxLen", "strconv.ErrSyntax", "strconv.ErrRange", "transposal/script.words"], apart := false, laid := [("math/bits.deBruijn32tab", laid_math_bits_deBruijn32tab), ("math/bits.deBruijn64tab", laid_math_bits_deBruijn64tab), ("internal/strconv.uint64pow10", laid_internal_strconv_uint64pow10), ("strconv.ErrRange", laid_strconv_ErrRange), ("strconv.ErrSyntax", laid_strconv_ErrSyntax), ("transposal/day.months", laid_transposal_day_months), ("transposal/script.words", laid_transposal_script_words)], narrowed := true }
def ImageOfUptoSaid : Prop := imageOfUptoRow.holds Tryz.pinned (OpenSpec.upto imageOfSpec)

/-- 'transposallaw17.ImageAll', WHERE WHAT IT READS IS OF BULK AT MOST 1048576: true; the input reads as it did. -/
def imageAllUptoRow : OpenClaim := { program := "ythabndifdgafbaagreatdoor", sum := "45fd450e7f472f594ce6600660dd0083f5970baa59f7d988d80bbb400008a47e", func := "transposal/transposallaw17.ImageAll", spec := "imageAll", inPlace := ["slices.overlaps[uint16]", "slices.overlaps[transposal/chart.Account]", "internal/abi.NoEscape", "internal/bytealg.MakeNoZero", "internal/bytealg.IndexByteString", "internal/bytealg.IndexString"], unfollowed := true, recurses := true, named := ["transposal/day.months", "internal/strconv.uint64pow10", "math/bits.deBruijn32tab", "math/bits.deBruijn64tab", "internal/bytealg.MaxLen", "strconv.ErrSyntax", "strconv.ErrRange", "transposal/script.words"], apart := false, laid := [("math/bits.deBruijn32tab", laid_math_bits_deBruijn32tab), ("math/bits.deBruijn64tab", laid_math_bits_deBruijn64tab), ("internal/strconv.uint64pow10", laid_internal_strconv_uint64pow10), ("strconv.ErrRange", laid_strconv_ErrRange), ("strconv.ErrSyntax", laid_strconv_ErrSyntax), ("transposal/day.months", laid_transposal_day_months), ("transposal/script.words", laid_transposal_script_words)], narrowed := true }
def ImageAllUptoSaid : Prop := imageAllUptoRow.holds Tryz.pinned (OpenSpec.upto imageAllSpec)

/-- 'transposallaw17.ImageSums', WHERE WHAT IT READS IS OF BULK AT MOST 1048576: true; the input reads as it did. -/
def imageSumsUptoRow : OpenClaim := { program := "ythabndifdgafbaagreatdoor", sum := "45fd450e7f472f594ce6600660dd0083f5970baa59f7d988d80bbb400008a47e", func := "transposal/transposallaw17.ImageSums", spec := "imageSums", inPlace := ["slices.overlaps[uint16]", "slices.overlaps[transposal/chart.Account]", "internal/abi.NoEscape", "internal/bytealg.MakeNoZero", "internal/bytealg.IndexByteString", "internal/bytealg.IndexString"], unfollowed := true, recurses := true, named := ["transposal/day.months", "internal/strconv.uint64pow10", "math/bits.deBruijn32tab", "math/bits.deBruijn64tab", "internal/bytealg.MaxLen", "strconv.ErrSyntax", "strconv.ErrRange", "transposal/script.words"], apart := false, laid := [("math/bits.deBruijn32tab", laid_math_bits_deBruijn32tab), ("math/bits.deBruijn64tab", laid_math_bits_deBruijn64tab), ("internal/strconv.uint64pow10", laid_internal_strconv_uint64pow10), ("strconv.ErrRange", laid_strconv_ErrRange), ("strconv.ErrSyntax", laid_strconv_ErrSyntax), ("transposal/day.months", laid_transposal_day_months), ("transposal/script.words", laid_transposal_script_words)], narrowed := true }
def ImageSumsUptoSaid : Prop := imageSumsUptoRow.holds Tryz.pinned (OpenSpec.upto imageSumsSpec)

/-- 'transposallaw17.ImageParts', WHERE WHAT IT READS IS OF BULK AT MOST 1048576: true; the input reads as it did. -/
def imagePartsUptoRow : OpenClaim := { program := "ythabndifdgafbaagreatdoor", sum := "45fd450e7f472f594ce6600660dd0083f5970baa59f7d988d80bbb400008a47e", func := "transposal/transposallaw17.ImageParts", spec := "imageParts", inPlace := ["slices.overlaps[uint16]", "slices.overlaps[transposal/chart.Account]", "internal/abi.NoEscape", "internal/bytealg.MakeNoZero", "internal/bytealg.IndexByteString", "internal/bytealg.IndexString"], unfollowed := true, recurses := true, named := ["transposal/day.months", "internal/strconv.uint64pow10", "math/bits.deBruijn32tab", "math/bits.deBruijn64tab", "internal/bytealg.MaxLen", "strconv.ErrSyntax", "strconv.ErrRange", "transposal/script.words"], apart := false, laid := [("math/bits.deBruijn32tab", laid_math_bits_deBruijn32tab), ("math/bits.deBruijn64tab", laid_math_bits_deBruijn64tab), ("internal/strconv.uint64pow10", laid_internal_strconv_uint64pow10), ("strconv.ErrRange", laid_strconv_ErrRange), ("strconv.ErrSyntax", laid_strconv_ErrSyntax), ("transposal/day.months", laid_transposal_day_months), ("transposal/script.words", laid_transposal_script_words)], narrowed := true }
def ImagePartsUptoSaid : Prop := imagePartsUptoRow.holds Tryz.pinned (OpenSpec.upto imagePartsSpec)

/-- 'transposallaw17.ImageBack', WHERE WHAT IT READS IS OF BULK AT MOST 1048576: true; the input reads as it did. -/
def imageBackUptoRow : OpenClaim := { program := "ythabndifdgafbaagreatdoor", sum := "45fd450e7f472f594ce6600660dd0083f5970baa59f7d988d80bbb400008a47e", func := "transposal/transposallaw17.ImageBack", spec := "imageBack", inPlace := ["slices.overlaps[uint16]", "slices.overlaps[transposal/chart.Account]", "internal/abi.NoEscape", "internal/bytealg.MakeNoZero", "internal/bytealg.IndexByteString", "internal/bytealg.IndexString"], unfollowed := true, recurses := true, named := ["transposal/day.months", "internal/strconv.uint64pow10", "math/bits.deBruijn32tab", "math/bits.deBruijn64tab", "internal/bytealg.MaxLen", "strconv.ErrSyntax", "strconv.ErrRange", "transposal/script.words"], apart := false, laid := [("math/bits.deBruijn32tab", laid_math_bits_deBruijn32tab), ("math/bits.deBruijn64tab", laid_math_bits_deBruijn64tab), ("internal/strconv.uint64pow10", laid_internal_strconv_uint64pow10), ("strconv.ErrRange", laid_strconv_ErrRange), ("strconv.ErrSyntax", laid_strconv_ErrSyntax), ("transposal/day.months", laid_transposal_day_months), ("transposal/script.words", laid_transposal_script_words)], narrowed := true }
def ImageBackUptoSaid : Prop := imageBackUptoRow.holds Tryz.pinned (OpenSpec.upto imageBackSpec)

end Rows
end Go.Proofs.YthabndifdgafbaaGreatDoor
