/-
  NARROWER THAN 'FOR EVERY INPUT', by the rows' own cells (each row's printed sentence says how): SurveyWatches: laid · SurveyFires: laid · SurveyDiaries: laid · SurveyDifferences: laid · SurveyQuiet: laid · SurveyMore: laid · SurveyHours: laid · SurveyMoney: laid · SurveyBills: laid · SurveyTexts: laid · SurveyBack: laid.
  DERIVED. THE GIVEN ROWS OF THIS SEAT. 11 by the template 'for every input the law returns true; each argument reads behind the call as it read before'; 0 by the template 'total and deterministic' (their statements: YtndhjkammoeikaaGreatDoorTotals.lean).
  GIVEN WITH THE SEED: the statements are not yours to turn. If you find one false, say at which input.
  Laid BY PROGRAM, IN A SANDBOX (cutbox-rows.mjs): the forced cells as the released guide's own fill.sh prints them over the translation 0cb3d8f6b1b447e7… (all of the seat's roots in one cut). By AI agents, Wed Nov 11 2026. No macro, syntax, notation, axiom, sorry.
-/
import Derived.Test.YtndhjkammoeikaaGreatDoorChecked
import GoSem.PinnedTables
import GoSem.Claim
import GoSem.ClaimJoined
import GoSem.ClaimMapViews
import Derived.JoinedTies
import Derived.KernelRfl
namespace Go.Proofs.YtndhjkammoeikaaGreatDoor
/- THE CELL 'sum', in the pinned program and in every row, IS THE sha256 OF THE DUMP (.gsa) THAT YtndhjkammoeikaaGreatDoorProg.lean LOADS. Nothing in Lean hashes anything: it is a label: what it is worth is what the hold of that sum in a sandbox is worth. -/
noncomputable def Tryz.pinned : Pinned := { name := "ytndhjkammoeikaagreatdoor", sum := "0cb3d8f6b1b447e747064656d8f0c317a5717fb2a5de590a9be3bcbc3332cb19", checked := Tryz.checked }
namespace Rows
def none {H : Type} : Left H := { results := [], args := [] }

/- WHAT THE LISTED PACKAGE-LEVEL VARIABLES READ AS WHEN THE CALL BEGINS. Each datum BY PROGRAM (the guide's laid-datum.mjs) off the statement by which the dump's own 'gosem.cut.vars' lays the variable. In a bare row this is a premise. The card (YtndhjkammoeikaaGreatDoorCards.lean) ties it to the program's text. -/
def laid_math_bits_deBruijn32tab {H : Type} : DataW H := .agg [.lit (.int .u8 0), .lit (.int .u8 1), .lit (.int .u8 28), .lit (.int .u8 2), .lit (.int .u8 29), .lit (.int .u8 14), .lit (.int .u8 24), .lit (.int .u8 3), .lit (.int .u8 30), .lit (.int .u8 22), .lit (.int .u8 20), .lit (.int .u8 15), .lit (.int .u8 25), .lit (.int .u8 17), .lit (.int .u8 4), .lit (.int .u8 8), .lit (.int .u8 31), .lit (.int .u8 27), .lit (.int .u8 13), .lit (.int .u8 23), .lit (.int .u8 21), .lit (.int .u8 19), .lit (.int .u8 16), .lit (.int .u8 7), .lit (.int .u8 26), .lit (.int .u8 12), .lit (.int .u8 18), .lit (.int .u8 6), .lit (.int .u8 11), .lit (.int .u8 5), .lit (.int .u8 10), .lit (.int .u8 9)]
def laid_math_bits_deBruijn64tab {H : Type} : DataW H := .agg [.lit (.int .u8 0), .lit (.int .u8 1), .lit (.int .u8 56), .lit (.int .u8 2), .lit (.int .u8 57), .lit (.int .u8 49), .lit (.int .u8 28), .lit (.int .u8 3), .lit (.int .u8 61), .lit (.int .u8 58), .lit (.int .u8 42), .lit (.int .u8 50), .lit (.int .u8 38), .lit (.int .u8 29), .lit (.int .u8 17), .lit (.int .u8 4), .lit (.int .u8 62), .lit (.int .u8 47), .lit (.int .u8 59), .lit (.int .u8 36), .lit (.int .u8 45), .lit (.int .u8 43), .lit (.int .u8 51), .lit (.int .u8 22), .lit (.int .u8 53), .lit (.int .u8 39), .lit (.int .u8 33), .lit (.int .u8 30), .lit (.int .u8 24), .lit (.int .u8 18), .lit (.int .u8 12), .lit (.int .u8 5), .lit (.int .u8 63), .lit (.int .u8 55), .lit (.int .u8 48), .lit (.int .u8 27), .lit (.int .u8 60), .lit (.int .u8 41), .lit (.int .u8 37), .lit (.int .u8 16), .lit (.int .u8 46), .lit (.int .u8 35), .lit (.int .u8 44), .lit (.int .u8 21), .lit (.int .u8 52), .lit (.int .u8 32), .lit (.int .u8 23), .lit (.int .u8 11), .lit (.int .u8 54), .lit (.int .u8 26), .lit (.int .u8 40), .lit (.int .u8 15), .lit (.int .u8 34), .lit (.int .u8 20), .lit (.int .u8 31), .lit (.int .u8 10), .lit (.int .u8 25), .lit (.int .u8 14), .lit (.int .u8 19), .lit (.int .u8 9), .lit (.int .u8 13), .lit (.int .u8 8), .lit (.int .u8 7), .lit (.int .u8 6)]
def laid_internal_strconv_uint64pow10 {H : Type} : DataW H := .agg [.lit (.int .u64 1), .lit (.int .u64 10), .lit (.int .u64 100), .lit (.int .u64 1000), .lit (.int .u64 10000), .lit (.int .u64 100000), .lit (.int .u64 1000000), .lit (.int .u64 10000000), .lit (.int .u64 100000000), .lit (.int .u64 1000000000), .lit (.int .u64 10000000000), .lit (.int .u64 100000000000), .lit (.int .u64 1000000000000), .lit (.int .u64 10000000000000), .lit (.int .u64 100000000000000), .lit (.int .u64 1000000000000000), .lit (.int .u64 10000000000000000), .lit (.int .u64 100000000000000000), .lit (.int .u64 1000000000000000000), .lit (.int .u64 10000000000000000000)]
def laid_unicode_utf8_acceptRanges {H : Type} : DataW H := .agg [.agg [.lit (.int .u8 128), .lit (.int .u8 191)], .agg [.lit (.int .u8 160), .lit (.int .u8 191)], .agg [.lit (.int .u8 128), .lit (.int .u8 159)], .agg [.lit (.int .u8 144), .lit (.int .u8 191)], .agg [.lit (.int .u8 128), .lit (.int .u8 143)], .agg [.lit (.int .u8 0), .lit (.int .u8 0)], .agg [.lit (.int .u8 0), .lit (.int .u8 0)], .agg [.lit (.int .u8 0), .lit (.int .u8 0)], .agg [.lit (.int .u8 0), .lit (.int .u8 0)], .agg [.lit (.int .u8 0), .lit (.int .u8 0)], .agg [.lit (.int .u8 0), .lit (.int .u8 0)], .agg [.lit (.int .u8 0), .lit (.int .u8 0)], .agg [.lit (.int .u8 0), .lit (.int .u8 0)], .agg [.lit (.int .u8 0), .lit (.int .u8 0)], .agg [.lit (.int .u8 0), .lit (.int .u8 0)], .agg [.lit (.int .u8 0), .lit (.int .u8 0)]]
/-- One of Go's own tables, pinned by name: the form's constant. -/
def laid_unicode_utf8_first : DataW Unit := Go.Pinned.utf8First

/-- 'moveoutlaw09.SurveyWatches': WHATEVER THE INPUT: true; the input reads as it did. -/
def surveyWatchesSpec : ChangeSpec := { name := "surveyWatches", fn := fun _ => fun
  | [d1, d2, d3] => { results := [.lit (.bool true)], args := [d1, d2, d3] }
  | _ => none }
def surveyWatchesRow : OpenClaim := { program := "ytndhjkammoeikaagreatdoor", sum := "0cb3d8f6b1b447e747064656d8f0c317a5717fb2a5de590a9be3bcbc3332cb19", func := "moveout/moveoutlaw09.SurveyWatches", spec := "surveyWatches", inPlace := ["internal/abi.NoEscape", "internal/bytealg.MakeNoZero"], unfollowed := true, recurses := true, named := ["internal/strconv.uint64pow10", "math/bits.deBruijn32tab", "math/bits.deBruijn64tab"], apart := false, laid := [("math/bits.deBruijn32tab", laid_math_bits_deBruijn32tab), ("math/bits.deBruijn64tab", laid_math_bits_deBruijn64tab), ("internal/strconv.uint64pow10", laid_internal_strconv_uint64pow10)] }
def SurveyWatchesSaid : Prop := surveyWatchesRow.holds Tryz.pinned (OpenSpec.ofChange surveyWatchesSpec)

/-- ITS FALSE NEIGHBOUR: 'it returns false'. Refute it at one input. -/
def surveyWatchesWrong : ChangeSpec := { name := "surveyWatches", fn := fun _ => fun
  | [d1, d2, d3] => { results := [.lit (.bool false)], args := [d1, d2, d3] }
  | _ => none }
def SurveyWatchesWrongFalsely : Prop := surveyWatchesRow.holds Tryz.pinned (OpenSpec.ofChange surveyWatchesWrong)

/-- 'moveoutlaw09.SurveyFires': WHATEVER THE INPUT: true; the input reads as it did. -/
def surveyFiresSpec : ChangeSpec := { name := "surveyFires", fn := fun _ => fun
  | [d1, d2, d3] => { results := [.lit (.bool true)], args := [d1, d2, d3] }
  | _ => none }
def surveyFiresRow : OpenClaim := { program := "ytndhjkammoeikaagreatdoor", sum := "0cb3d8f6b1b447e747064656d8f0c317a5717fb2a5de590a9be3bcbc3332cb19", func := "moveout/moveoutlaw09.SurveyFires", spec := "surveyFires", inPlace := ["internal/abi.NoEscape", "internal/bytealg.MakeNoZero"], unfollowed := true, recurses := true, named := ["internal/strconv.uint64pow10", "math/bits.deBruijn32tab", "math/bits.deBruijn64tab"], apart := false, laid := [("math/bits.deBruijn32tab", laid_math_bits_deBruijn32tab), ("math/bits.deBruijn64tab", laid_math_bits_deBruijn64tab), ("internal/strconv.uint64pow10", laid_internal_strconv_uint64pow10)] }
def SurveyFiresSaid : Prop := surveyFiresRow.holds Tryz.pinned (OpenSpec.ofChange surveyFiresSpec)

/-- ITS FALSE NEIGHBOUR: 'it returns false'. Refute it at one input. -/
def surveyFiresWrong : ChangeSpec := { name := "surveyFires", fn := fun _ => fun
  | [d1, d2, d3] => { results := [.lit (.bool false)], args := [d1, d2, d3] }
  | _ => none }
def SurveyFiresWrongFalsely : Prop := surveyFiresRow.holds Tryz.pinned (OpenSpec.ofChange surveyFiresWrong)

/-- 'moveoutlaw09.SurveyDiaries': WHATEVER THE INPUT: true; the input reads as it did. -/
def surveyDiariesSpec : ChangeSpec := { name := "surveyDiaries", fn := fun _ => fun
  | [d1, d2, d3] => { results := [.lit (.bool true)], args := [d1, d2, d3] }
  | _ => none }
def surveyDiariesRow : OpenClaim := { program := "ytndhjkammoeikaagreatdoor", sum := "0cb3d8f6b1b447e747064656d8f0c317a5717fb2a5de590a9be3bcbc3332cb19", func := "moveout/moveoutlaw09.SurveyDiaries", spec := "surveyDiaries", inPlace := ["internal/abi.NoEscape", "internal/bytealg.MakeNoZero"], unfollowed := true, recurses := true, named := ["internal/strconv.uint64pow10", "math/bits.deBruijn32tab", "math/bits.deBruijn64tab"], apart := false, laid := [("math/bits.deBruijn32tab", laid_math_bits_deBruijn32tab), ("math/bits.deBruijn64tab", laid_math_bits_deBruijn64tab), ("internal/strconv.uint64pow10", laid_internal_strconv_uint64pow10)] }
def SurveyDiariesSaid : Prop := surveyDiariesRow.holds Tryz.pinned (OpenSpec.ofChange surveyDiariesSpec)

/-- ITS FALSE NEIGHBOUR: 'it returns false'. Refute it at one input. -/
def surveyDiariesWrong : ChangeSpec := { name := "surveyDiaries", fn := fun _ => fun
  | [d1, d2, d3] => { results := [.lit (.bool false)], args := [d1, d2, d3] }
  | _ => none }
def SurveyDiariesWrongFalsely : Prop := surveyDiariesRow.holds Tryz.pinned (OpenSpec.ofChange surveyDiariesWrong)

/-- 'moveoutlaw09.SurveyDifferences': WHATEVER THE INPUT: true; the input reads as it did. -/
def surveyDifferencesSpec : ChangeSpec := { name := "surveyDifferences", fn := fun _ => fun
  | [d1, d2] => { results := [.lit (.bool true)], args := [d1, d2] }
  | _ => none }
def surveyDifferencesRow : OpenClaim := { program := "ytndhjkammoeikaagreatdoor", sum := "0cb3d8f6b1b447e747064656d8f0c317a5717fb2a5de590a9be3bcbc3332cb19", func := "moveout/moveoutlaw09.SurveyDifferences", spec := "surveyDifferences", inPlace := ["internal/abi.NoEscape", "internal/bytealg.MakeNoZero"], unfollowed := true, recurses := true, named := ["internal/strconv.uint64pow10", "math/bits.deBruijn32tab", "math/bits.deBruijn64tab"], apart := false, laid := [("math/bits.deBruijn32tab", laid_math_bits_deBruijn32tab), ("math/bits.deBruijn64tab", laid_math_bits_deBruijn64tab), ("internal/strconv.uint64pow10", laid_internal_strconv_uint64pow10)] }
def SurveyDifferencesSaid : Prop := surveyDifferencesRow.holds Tryz.pinned (OpenSpec.ofChange surveyDifferencesSpec)

/-- ITS FALSE NEIGHBOUR: 'it returns false'. Refute it at one input. -/
def surveyDifferencesWrong : ChangeSpec := { name := "surveyDifferences", fn := fun _ => fun
  | [d1, d2] => { results := [.lit (.bool false)], args := [d1, d2] }
  | _ => none }
def SurveyDifferencesWrongFalsely : Prop := surveyDifferencesRow.holds Tryz.pinned (OpenSpec.ofChange surveyDifferencesWrong)

/-- 'moveoutlaw09.SurveyQuiet': WHATEVER THE INPUT: true; the input reads as it did. -/
def surveyQuietSpec : ChangeSpec := { name := "surveyQuiet", fn := fun _ => fun
  | [d1, d2] => { results := [.lit (.bool true)], args := [d1, d2] }
  | _ => none }
def surveyQuietRow : OpenClaim := { program := "ytndhjkammoeikaagreatdoor", sum := "0cb3d8f6b1b447e747064656d8f0c317a5717fb2a5de590a9be3bcbc3332cb19", func := "moveout/moveoutlaw09.SurveyQuiet", spec := "surveyQuiet", inPlace := ["internal/abi.NoEscape", "internal/bytealg.MakeNoZero"], unfollowed := true, recurses := true, named := ["internal/strconv.uint64pow10", "math/bits.deBruijn32tab", "math/bits.deBruijn64tab"], apart := false, laid := [("math/bits.deBruijn32tab", laid_math_bits_deBruijn32tab), ("math/bits.deBruijn64tab", laid_math_bits_deBruijn64tab), ("internal/strconv.uint64pow10", laid_internal_strconv_uint64pow10)] }
def SurveyQuietSaid : Prop := surveyQuietRow.holds Tryz.pinned (OpenSpec.ofChange surveyQuietSpec)

/-- ITS FALSE NEIGHBOUR: 'it returns false'. Refute it at one input. -/
def surveyQuietWrong : ChangeSpec := { name := "surveyQuiet", fn := fun _ => fun
  | [d1, d2] => { results := [.lit (.bool false)], args := [d1, d2] }
  | _ => none }
def SurveyQuietWrongFalsely : Prop := surveyQuietRow.holds Tryz.pinned (OpenSpec.ofChange surveyQuietWrong)

/-- 'moveoutlaw09.SurveyMore': WHATEVER THE INPUT: true; the input reads as it did. -/
def surveyMoreSpec : ChangeSpec := { name := "surveyMore", fn := fun _ => fun
  | [d1, d2, d3] => { results := [.lit (.bool true)], args := [d1, d2, d3] }
  | _ => none }
def surveyMoreRow : OpenClaim := { program := "ytndhjkammoeikaagreatdoor", sum := "0cb3d8f6b1b447e747064656d8f0c317a5717fb2a5de590a9be3bcbc3332cb19", func := "moveout/moveoutlaw09.SurveyMore", spec := "surveyMore", inPlace := ["internal/abi.NoEscape", "internal/bytealg.MakeNoZero"], unfollowed := true, recurses := true, named := ["internal/strconv.uint64pow10", "math/bits.deBruijn32tab", "math/bits.deBruijn64tab"], apart := false, laid := [("math/bits.deBruijn32tab", laid_math_bits_deBruijn32tab), ("math/bits.deBruijn64tab", laid_math_bits_deBruijn64tab), ("internal/strconv.uint64pow10", laid_internal_strconv_uint64pow10)] }
def SurveyMoreSaid : Prop := surveyMoreRow.holds Tryz.pinned (OpenSpec.ofChange surveyMoreSpec)

/-- ITS FALSE NEIGHBOUR: 'it returns false'. Refute it at one input. -/
def surveyMoreWrong : ChangeSpec := { name := "surveyMore", fn := fun _ => fun
  | [d1, d2, d3] => { results := [.lit (.bool false)], args := [d1, d2, d3] }
  | _ => none }
def SurveyMoreWrongFalsely : Prop := surveyMoreRow.holds Tryz.pinned (OpenSpec.ofChange surveyMoreWrong)

/-- 'moveoutlaw09.SurveyHours': WHATEVER THE INPUT: true; the input reads as it did. -/
def surveyHoursSpec : ChangeSpec := { name := "surveyHours", fn := fun _ => fun
  | [d] => { results := [.lit (.bool true)], args := [d] }
  | _ => none }
def surveyHoursRow : OpenClaim := { program := "ytndhjkammoeikaagreatdoor", sum := "0cb3d8f6b1b447e747064656d8f0c317a5717fb2a5de590a9be3bcbc3332cb19", func := "moveout/moveoutlaw09.SurveyHours", spec := "surveyHours", inPlace := ["internal/abi.NoEscape", "internal/bytealg.MakeNoZero"], unfollowed := true, recurses := true, named := ["internal/strconv.uint64pow10", "math/bits.deBruijn32tab", "math/bits.deBruijn64tab"], apart := false, laid := [("math/bits.deBruijn32tab", laid_math_bits_deBruijn32tab), ("math/bits.deBruijn64tab", laid_math_bits_deBruijn64tab), ("internal/strconv.uint64pow10", laid_internal_strconv_uint64pow10)] }
def SurveyHoursSaid : Prop := surveyHoursRow.holds Tryz.pinned (OpenSpec.ofChange surveyHoursSpec)

/-- ITS FALSE NEIGHBOUR: 'it returns false'. Refute it at one input. -/
def surveyHoursWrong : ChangeSpec := { name := "surveyHours", fn := fun _ => fun
  | [d] => { results := [.lit (.bool false)], args := [d] }
  | _ => none }
def SurveyHoursWrongFalsely : Prop := surveyHoursRow.holds Tryz.pinned (OpenSpec.ofChange surveyHoursWrong)

/-- 'moveoutlaw09.SurveyMoney': WHATEVER THE INPUT: true; the input reads as it did. -/
def surveyMoneySpec : ChangeSpec := { name := "surveyMoney", fn := fun _ => fun
  | [d1, d2, d3] => { results := [.lit (.bool true)], args := [d1, d2, d3] }
  | _ => none }
def surveyMoneyRow : OpenClaim := { program := "ytndhjkammoeikaagreatdoor", sum := "0cb3d8f6b1b447e747064656d8f0c317a5717fb2a5de590a9be3bcbc3332cb19", func := "moveout/moveoutlaw09.SurveyMoney", spec := "surveyMoney", inPlace := ["internal/abi.NoEscape", "internal/bytealg.MakeNoZero"], unfollowed := true, recurses := true, named := ["internal/strconv.uint64pow10", "math/bits.deBruijn32tab", "math/bits.deBruijn64tab"], apart := false, laid := [("math/bits.deBruijn32tab", laid_math_bits_deBruijn32tab), ("math/bits.deBruijn64tab", laid_math_bits_deBruijn64tab), ("internal/strconv.uint64pow10", laid_internal_strconv_uint64pow10)] }
def SurveyMoneySaid : Prop := surveyMoneyRow.holds Tryz.pinned (OpenSpec.ofChange surveyMoneySpec)

/-- ITS FALSE NEIGHBOUR: 'it returns false'. Refute it at one input. -/
def surveyMoneyWrong : ChangeSpec := { name := "surveyMoney", fn := fun _ => fun
  | [d1, d2, d3] => { results := [.lit (.bool false)], args := [d1, d2, d3] }
  | _ => none }
def SurveyMoneyWrongFalsely : Prop := surveyMoneyRow.holds Tryz.pinned (OpenSpec.ofChange surveyMoneyWrong)

/-- 'moveoutlaw09.SurveyBills': WHATEVER THE INPUT: true; the input reads as it did. -/
def surveyBillsSpec : ChangeSpec := { name := "surveyBills", fn := fun _ => fun
  | [d1, d2, d3] => { results := [.lit (.bool true)], args := [d1, d2, d3] }
  | _ => none }
def surveyBillsRow : OpenClaim := { program := "ytndhjkammoeikaagreatdoor", sum := "0cb3d8f6b1b447e747064656d8f0c317a5717fb2a5de590a9be3bcbc3332cb19", func := "moveout/moveoutlaw09.SurveyBills", spec := "surveyBills", inPlace := ["internal/abi.NoEscape", "internal/bytealg.MakeNoZero"], unfollowed := true, recurses := true, named := ["internal/strconv.uint64pow10", "math/bits.deBruijn32tab", "math/bits.deBruijn64tab"], apart := false, laid := [("math/bits.deBruijn32tab", laid_math_bits_deBruijn32tab), ("math/bits.deBruijn64tab", laid_math_bits_deBruijn64tab), ("internal/strconv.uint64pow10", laid_internal_strconv_uint64pow10)] }
def SurveyBillsSaid : Prop := surveyBillsRow.holds Tryz.pinned (OpenSpec.ofChange surveyBillsSpec)

/-- ITS FALSE NEIGHBOUR: 'it returns false'. Refute it at one input. -/
def surveyBillsWrong : ChangeSpec := { name := "surveyBills", fn := fun _ => fun
  | [d1, d2, d3] => { results := [.lit (.bool false)], args := [d1, d2, d3] }
  | _ => none }
def SurveyBillsWrongFalsely : Prop := surveyBillsRow.holds Tryz.pinned (OpenSpec.ofChange surveyBillsWrong)

/-- 'moveoutlaw09.SurveyTexts': WHATEVER THE INPUT: true; the input reads as it did. -/
def surveyTextsSpec : ChangeSpec := { name := "surveyTexts", fn := fun _ => fun
  | [d1, d2] => { results := [.lit (.bool true)], args := [d1, d2] }
  | _ => none }
def surveyTextsRow : OpenClaim := { program := "ytndhjkammoeikaagreatdoor", sum := "0cb3d8f6b1b447e747064656d8f0c317a5717fb2a5de590a9be3bcbc3332cb19", func := "moveout/moveoutlaw09.SurveyTexts", spec := "surveyTexts", inPlace := ["internal/abi.NoEscape", "internal/bytealg.MakeNoZero", "internal/bytealg.IndexByteString", "internal/bytealg.CountString", "internal/bytealg.IndexString"], unfollowed := true, recurses := true, named := ["internal/strconv.uint64pow10", "math/bits.deBruijn32tab", "math/bits.deBruijn64tab", "unicode/utf8.first", "unicode/utf8.acceptRanges", "internal/bytealg.MaxLen"], apart := false, laid := [("math/bits.deBruijn32tab", laid_math_bits_deBruijn32tab), ("math/bits.deBruijn64tab", laid_math_bits_deBruijn64tab), ("internal/strconv.uint64pow10", laid_internal_strconv_uint64pow10), ("unicode/utf8.acceptRanges", laid_unicode_utf8_acceptRanges), ("unicode/utf8.first", laid_unicode_utf8_first)] }
def SurveyTextsSaid : Prop := surveyTextsRow.holds Tryz.pinned (OpenSpec.ofChange surveyTextsSpec)

/-- ITS FALSE NEIGHBOUR: 'it returns false'. Refute it at one input. -/
def surveyTextsWrong : ChangeSpec := { name := "surveyTexts", fn := fun _ => fun
  | [d1, d2] => { results := [.lit (.bool false)], args := [d1, d2] }
  | _ => none }
def SurveyTextsWrongFalsely : Prop := surveyTextsRow.holds Tryz.pinned (OpenSpec.ofChange surveyTextsWrong)

/-- 'moveoutlaw09.SurveyBack': WHATEVER THE INPUT: true; the input reads as it did. -/
def surveyBackSpec : ChangeSpec := { name := "surveyBack", fn := fun _ => fun
  | [d1, d2] => { results := [.lit (.bool true)], args := [d1, d2] }
  | _ => none }
def surveyBackRow : OpenClaim := { program := "ytndhjkammoeikaagreatdoor", sum := "0cb3d8f6b1b447e747064656d8f0c317a5717fb2a5de590a9be3bcbc3332cb19", func := "moveout/moveoutlaw09.SurveyBack", spec := "surveyBack", inPlace := ["internal/abi.NoEscape", "internal/bytealg.MakeNoZero", "internal/bytealg.IndexByteString", "internal/bytealg.CountString", "internal/bytealg.IndexString"], unfollowed := true, recurses := true, named := ["internal/strconv.uint64pow10", "math/bits.deBruijn32tab", "math/bits.deBruijn64tab", "unicode/utf8.first", "unicode/utf8.acceptRanges", "internal/bytealg.MaxLen"], apart := false, laid := [("math/bits.deBruijn32tab", laid_math_bits_deBruijn32tab), ("math/bits.deBruijn64tab", laid_math_bits_deBruijn64tab), ("internal/strconv.uint64pow10", laid_internal_strconv_uint64pow10), ("unicode/utf8.acceptRanges", laid_unicode_utf8_acceptRanges), ("unicode/utf8.first", laid_unicode_utf8_first)] }
def SurveyBackSaid : Prop := surveyBackRow.holds Tryz.pinned (OpenSpec.ofChange surveyBackSpec)

/-- ITS FALSE NEIGHBOUR: 'it returns false'. Refute it at one input. -/
def surveyBackWrong : ChangeSpec := { name := "surveyBack", fn := fun _ => fun
  | [d1, d2] => { results := [.lit (.bool false)], args := [d1, d2] }
  | _ => none }
def SurveyBackWrongFalsely : Prop := surveyBackRow.holds Tryz.pinned (OpenSpec.ofChange surveyBackWrong)

/- THE SECOND FORM. 'bulk': how many values and letters a reading holds, each counted each time it is reached (what is shared counts as often as it is met; a slice's spare places count too). A statement '..UptoSaid' is the law's where the arguments, and the package variables that the reading takes, are together of bulk at most 1048576: NARROWER than '..Said'. Prove '..Said' where nothing that the law and all that it calls make is longer than what came in: it says more and counts as full. Else prove '..UptoSaid'. A law counts once. -/
mutual
def uptoBulk {H : Type} : DataW H → Nat
  | .lit (.string bytes) => bytes.length + 1
  | .lit _ => 1
  | .nil => 1
  | .ptr d => uptoBulk d + 1
  | .slice elems spare => uptoBulkAll elems + uptoBulkAll spare + 1
  | .agg parts => uptoBulkAll parts + 1
  | .iface _ d => uptoBulk d + 1
  | .map entries => uptoBulkEntries entries + 1
  | .held _ => 1
def uptoBulkAll {H : Type} : List (DataW H) → Nat
  | [] => 0
  | d :: r => uptoBulk d + uptoBulkAll r
def uptoBulkEntries {H : Type} : List (Lit × DataW H) → Nat
  | [] => 0
  | x :: r => uptoBulkEntry x + uptoBulkEntries r
def uptoBulkEntry {H : Type} : Lit × DataW H → Nat
  | (.string bytes, d) => bytes.length + uptoBulk d + 1
  | (_, d) => uptoBulk d + 1
 end
def uptoSmall : (H : Type) → List (DataW H) → Bool := fun _ ds => decide (uptoBulkAll ds ≤ 1048576)
def OpenSpec.upto (s : _root_.Go.ChangeSpec) : _root_.Go.OpenSpec := { _root_.Go.OpenSpec.ofChange s with cond := some uptoSmall }

/-- 'moveoutlaw09.SurveyWatches', WHERE WHAT IT READS IS OF BULK AT MOST 1048576: true; the input reads as it did. -/
def surveyWatchesUptoRow : OpenClaim := { program := "ytndhjkammoeikaagreatdoor", sum := "0cb3d8f6b1b447e747064656d8f0c317a5717fb2a5de590a9be3bcbc3332cb19", func := "moveout/moveoutlaw09.SurveyWatches", spec := "surveyWatches", inPlace := ["internal/abi.NoEscape", "internal/bytealg.MakeNoZero"], unfollowed := true, recurses := true, named := ["internal/strconv.uint64pow10", "math/bits.deBruijn32tab", "math/bits.deBruijn64tab"], apart := false, laid := [("math/bits.deBruijn32tab", laid_math_bits_deBruijn32tab), ("math/bits.deBruijn64tab", laid_math_bits_deBruijn64tab), ("internal/strconv.uint64pow10", laid_internal_strconv_uint64pow10)], narrowed := true }
def SurveyWatchesUptoSaid : Prop := surveyWatchesUptoRow.holds Tryz.pinned (OpenSpec.upto surveyWatchesSpec)

/-- 'moveoutlaw09.SurveyFires', WHERE WHAT IT READS IS OF BULK AT MOST 1048576: true; the input reads as it did. -/
def surveyFiresUptoRow : OpenClaim := { program := "ytndhjkammoeikaagreatdoor", sum := "0cb3d8f6b1b447e747064656d8f0c317a5717fb2a5de590a9be3bcbc3332cb19", func := "moveout/moveoutlaw09.SurveyFires", spec := "surveyFires", inPlace := ["internal/abi.NoEscape", "internal/bytealg.MakeNoZero"], unfollowed := true, recurses := true, named := ["internal/strconv.uint64pow10", "math/bits.deBruijn32tab", "math/bits.deBruijn64tab"], apart := false, laid := [("math/bits.deBruijn32tab", laid_math_bits_deBruijn32tab), ("math/bits.deBruijn64tab", laid_math_bits_deBruijn64tab), ("internal/strconv.uint64pow10", laid_internal_strconv_uint64pow10)], narrowed := true }
def SurveyFiresUptoSaid : Prop := surveyFiresUptoRow.holds Tryz.pinned (OpenSpec.upto surveyFiresSpec)

/-- 'moveoutlaw09.SurveyDiaries', WHERE WHAT IT READS IS OF BULK AT MOST 1048576: true; the input reads as it did. -/
def surveyDiariesUptoRow : OpenClaim := { program := "ytndhjkammoeikaagreatdoor", sum := "0cb3d8f6b1b447e747064656d8f0c317a5717fb2a5de590a9be3bcbc3332cb19", func := "moveout/moveoutlaw09.SurveyDiaries", spec := "surveyDiaries", inPlace := ["internal/abi.NoEscape", "internal/bytealg.MakeNoZero"], unfollowed := true, recurses := true, named := ["internal/strconv.uint64pow10", "math/bits.deBruijn32tab", "math/bits.deBruijn64tab"], apart := false, laid := [("math/bits.deBruijn32tab", laid_math_bits_deBruijn32tab), ("math/bits.deBruijn64tab", laid_math_bits_deBruijn64tab), ("internal/strconv.uint64pow10", laid_internal_strconv_uint64pow10)], narrowed := true }
def SurveyDiariesUptoSaid : Prop := surveyDiariesUptoRow.holds Tryz.pinned (OpenSpec.upto surveyDiariesSpec)

/-- 'moveoutlaw09.SurveyDifferences', WHERE WHAT IT READS IS OF BULK AT MOST 1048576: true; the input reads as it did. -/
def surveyDifferencesUptoRow : OpenClaim := { program := "ytndhjkammoeikaagreatdoor", sum := "0cb3d8f6b1b447e747064656d8f0c317a5717fb2a5de590a9be3bcbc3332cb19", func := "moveout/moveoutlaw09.SurveyDifferences", spec := "surveyDifferences", inPlace := ["internal/abi.NoEscape", "internal/bytealg.MakeNoZero"], unfollowed := true, recurses := true, named := ["internal/strconv.uint64pow10", "math/bits.deBruijn32tab", "math/bits.deBruijn64tab"], apart := false, laid := [("math/bits.deBruijn32tab", laid_math_bits_deBruijn32tab), ("math/bits.deBruijn64tab", laid_math_bits_deBruijn64tab), ("internal/strconv.uint64pow10", laid_internal_strconv_uint64pow10)], narrowed := true }
def SurveyDifferencesUptoSaid : Prop := surveyDifferencesUptoRow.holds Tryz.pinned (OpenSpec.upto surveyDifferencesSpec)

/-- 'moveoutlaw09.SurveyQuiet', WHERE WHAT IT READS IS OF BULK AT MOST 1048576: true; the input reads as it did. -/
def surveyQuietUptoRow : OpenClaim := { program := "ytndhjkammoeikaagreatdoor", sum := "0cb3d8f6b1b447e747064656d8f0c317a5717fb2a5de590a9be3bcbc3332cb19", func := "moveout/moveoutlaw09.SurveyQuiet", spec := "surveyQuiet", inPlace := ["internal/abi.NoEscape", "internal/bytealg.MakeNoZero"], unfollowed := true, recurses := true, named := ["internal/strconv.uint64pow10", "math/bits.deBruijn32tab", "math/bits.deBruijn64tab"], apart := false, laid := [("math/bits.deBruijn32tab", laid_math_bits_deBruijn32tab), ("math/bits.deBruijn64tab", laid_math_bits_deBruijn64tab), ("internal/strconv.uint64pow10", laid_internal_strconv_uint64pow10)], narrowed := true }
def SurveyQuietUptoSaid : Prop := surveyQuietUptoRow.holds Tryz.pinned (OpenSpec.upto surveyQuietSpec)

/-- 'moveoutlaw09.SurveyMore', WHERE WHAT IT READS IS OF BULK AT MOST 1048576: true; the input reads as it did. -/
def surveyMoreUptoRow : OpenClaim := { program := "ytndhjkammoeikaagreatdoor", sum := "0cb3d8f6b1b447e747064656d8f0c317a5717fb2a5de590a9be3bcbc3332cb19", func := "moveout/moveoutlaw09.SurveyMore", spec := "surveyMore", inPlace := ["internal/abi.NoEscape", "internal/bytealg.MakeNoZero"], unfollowed := true, recurses := true, named := ["internal/strconv.uint64pow10", "math/bits.deBruijn32tab", "math/bits.deBruijn64tab"], apart := false, laid := [("math/bits.deBruijn32tab", laid_math_bits_deBruijn32tab), ("math/bits.deBruijn64tab", laid_math_bits_deBruijn64tab), ("internal/strconv.uint64pow10", laid_internal_strconv_uint64pow10)], narrowed := true }
def SurveyMoreUptoSaid : Prop := surveyMoreUptoRow.holds Tryz.pinned (OpenSpec.upto surveyMoreSpec)

/-- 'moveoutlaw09.SurveyHours', WHERE WHAT IT READS IS OF BULK AT MOST 1048576: true; the input reads as it did. -/
def surveyHoursUptoRow : OpenClaim := { program := "ytndhjkammoeikaagreatdoor", sum := "0cb3d8f6b1b447e747064656d8f0c317a5717fb2a5de590a9be3bcbc3332cb19", func := "moveout/moveoutlaw09.SurveyHours", spec := "surveyHours", inPlace := ["internal/abi.NoEscape", "internal/bytealg.MakeNoZero"], unfollowed := true, recurses := true, named := ["internal/strconv.uint64pow10", "math/bits.deBruijn32tab", "math/bits.deBruijn64tab"], apart := false, laid := [("math/bits.deBruijn32tab", laid_math_bits_deBruijn32tab), ("math/bits.deBruijn64tab", laid_math_bits_deBruijn64tab), ("internal/strconv.uint64pow10", laid_internal_strconv_uint64pow10)], narrowed := true }
def SurveyHoursUptoSaid : Prop := surveyHoursUptoRow.holds Tryz.pinned (OpenSpec.upto surveyHoursSpec)

/-- 'moveoutlaw09.SurveyMoney', WHERE WHAT IT READS IS OF BULK AT MOST 1048576: true; the input reads as it did. -/
def surveyMoneyUptoRow : OpenClaim := { program := "ytndhjkammoeikaagreatdoor", sum := "0cb3d8f6b1b447e747064656d8f0c317a5717fb2a5de590a9be3bcbc3332cb19", func := "moveout/moveoutlaw09.SurveyMoney", spec := "surveyMoney", inPlace := ["internal/abi.NoEscape", "internal/bytealg.MakeNoZero"], unfollowed := true, recurses := true, named := ["internal/strconv.uint64pow10", "math/bits.deBruijn32tab", "math/bits.deBruijn64tab"], apart := false, laid := [("math/bits.deBruijn32tab", laid_math_bits_deBruijn32tab), ("math/bits.deBruijn64tab", laid_math_bits_deBruijn64tab), ("internal/strconv.uint64pow10", laid_internal_strconv_uint64pow10)], narrowed := true }
def SurveyMoneyUptoSaid : Prop := surveyMoneyUptoRow.holds Tryz.pinned (OpenSpec.upto surveyMoneySpec)

/-- 'moveoutlaw09.SurveyBills', WHERE WHAT IT READS IS OF BULK AT MOST 1048576: true; the input reads as it did. -/
def surveyBillsUptoRow : OpenClaim := { program := "ytndhjkammoeikaagreatdoor", sum := "0cb3d8f6b1b447e747064656d8f0c317a5717fb2a5de590a9be3bcbc3332cb19", func := "moveout/moveoutlaw09.SurveyBills", spec := "surveyBills", inPlace := ["internal/abi.NoEscape", "internal/bytealg.MakeNoZero"], unfollowed := true, recurses := true, named := ["internal/strconv.uint64pow10", "math/bits.deBruijn32tab", "math/bits.deBruijn64tab"], apart := false, laid := [("math/bits.deBruijn32tab", laid_math_bits_deBruijn32tab), ("math/bits.deBruijn64tab", laid_math_bits_deBruijn64tab), ("internal/strconv.uint64pow10", laid_internal_strconv_uint64pow10)], narrowed := true }
def SurveyBillsUptoSaid : Prop := surveyBillsUptoRow.holds Tryz.pinned (OpenSpec.upto surveyBillsSpec)

/-- 'moveoutlaw09.SurveyTexts', WHERE WHAT IT READS IS OF BULK AT MOST 1048576: true; the input reads as it did. -/
def surveyTextsUptoRow : OpenClaim := { program := "ytndhjkammoeikaagreatdoor", sum := "0cb3d8f6b1b447e747064656d8f0c317a5717fb2a5de590a9be3bcbc3332cb19", func := "moveout/moveoutlaw09.SurveyTexts", spec := "surveyTexts", inPlace := ["internal/abi.NoEscape", "internal/bytealg.MakeNoZero", "internal/bytealg.IndexByteString", "internal/bytealg.CountString", "internal/bytealg.IndexString"], unfollowed := true, recurses := true, named := ["internal/strconv.uint64pow10", "math/bits.deBruijn32tab", "math/bits.deBruijn64tab", "unicode/utf8.first", "unicode/utf8.acceptRanges", "internal/bytealg.MaxLen"], apart := false, laid := [("math/bits.deBruijn32tab", laid_math_bits_deBruijn32tab), ("math/bits.deBruijn64tab", laid_math_bits_deBruijn64tab), ("internal/strconv.uint64pow10", laid_internal_strconv_uint64pow10), ("unicode/utf8.acceptRanges", laid_unicode_utf8_acceptRanges), ("unicode/utf8.first", laid_unicode_utf8_first)], narrowed := true }
def SurveyTextsUptoSaid : Prop := surveyTextsUptoRow.holds Tryz.pinned (OpenSpec.upto surveyTextsSpec)

/-- 'moveoutlaw09.SurveyBack', WHERE WHAT IT READS IS OF BULK AT MOST 1048576: true; the input reads as it did. -/
def surveyBackUptoRow : OpenClaim := { program := "ytndhjkammoeikaagreatdoor", sum := "0cb3d8f6b1b447e747064656d8f0c317a5717fb2a5de590a9be3bcbc3332cb19", func := "moveout/moveoutlaw09.SurveyBack", spec := "surveyBack", inPlace := ["internal/abi.NoEscape", "internal/bytealg.MakeNoZero", "internal/bytealg.IndexByteString", "internal/bytealg.CountString", "internal/bytealg.IndexString"], unfollowed := true, recurses := true, named := ["internal/strconv.uint64pow10", "math/bits.deBruijn32tab", "math/bits.deBruijn64tab", "unicode/utf8.first", "unicode/utf8.acceptRanges", "internal/bytealg.MaxLen"], apart := false, laid := [("math/bits.deBruijn32tab", laid_math_bits_deBruijn32tab), ("math/bits.deBruijn64tab", laid_math_bits_deBruijn64tab), ("internal/strconv.uint64pow10", laid_internal_strconv_uint64pow10), ("unicode/utf8.acceptRanges", laid_unicode_utf8_acceptRanges), ("unicode/utf8.first", laid_unicode_utf8_first)], narrowed := true }
def SurveyBackUptoSaid : Prop := surveyBackUptoRow.holds Tryz.pinned (OpenSpec.upto surveyBackSpec)

end Rows
end Go.Proofs.YtndhjkammoeikaaGreatDoor
