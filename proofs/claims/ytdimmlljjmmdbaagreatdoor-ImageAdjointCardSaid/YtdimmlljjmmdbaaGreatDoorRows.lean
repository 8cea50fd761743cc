/-
  NARROWER THAN 'FOR EVERY INPUT', by the rows' own cells (each row's printed sentence says how): ImageModels: laid · ImageFits: laid · ImageInners: laid · ImageThrough: laid · ImageBounded: laid · ImageImages: laid · ImageAdjoint: laid · ImageTimes: laid · ImageTurned: laid · ImageProofs: laid · ImageRays: laid · ImageTexts: laid · ImageBack: laid.
  DERIVED. THE GIVEN ROWS OF THIS SEAT. 13 by the template 'for every input the law returns true; each argument reads behind the call as it read before'; 0 by the template 'total and deterministic' (their statements: YtdimmlljjmmdbaaGreatDoorTotals.lean).
  GIVEN WITH THE SEED: the statements are not yours to turn. If you find one false, say at which input.
  Laid BY PROGRAM, IN A SANDBOX (cutbox-rows.mjs): the forced cells as the released guide's own fill.sh prints them over the translation 6a507ed749584c5a… (all of the seat's roots in one cut). By AI agents, Wed Nov 11 2026. No macro, syntax, notation, axiom, sorry.
-/
import Derived.Test.YtdimmlljjmmdbaaGreatDoorChecked
import GoSem.PinnedTables
import GoSem.Claim
import GoSem.ClaimJoined
import GoSem.ClaimMapViews
import Derived.JoinedTies
import Derived.KernelRfl
namespace Go.Proofs.YtdimmlljjmmdbaaGreatDoor
/- THE CELL 'sum', in the pinned program and in every row, IS THE sha256 OF THE DUMP (.gsa) THAT YtdimmlljjmmdbaaGreatDoorProg.lean LOADS. Nothing in Lean hashes anything: it is a label: what it is worth is what the hold of that sum in a sandbox is worth. -/
noncomputable def Tryz.pinned : Pinned := { name := "ytdimmlljjmmdbaagreatdoor", sum := "6a507ed749584c5a745fa8fb0e0fc722ac762a03bd45ba31c64ea5e28abffe6e", checked := Tryz.checked }
namespace Rows
def none {H : Type} : Left H := { results := [], args := [] }

/- WHAT THE LISTED PACKAGE-LEVEL VARIABLES READ AS WHEN THE CALL BEGINS. Each datum BY PROGRAM (the guide's laid-datum.mjs) off the statement by which the dump's own 'gosem.cut.vars' lays the variable. In a bare row this is a premise. The card (YtdimmlljjmmdbaaGreatDoorCards.lean) ties it to the program's text. -/
def laid_math_bits_deBruijn32tab {H : Type} : DataW H := .agg [.lit (.int .u8 0), .lit (.int .u8 1), .lit (.int .u8 28), .lit (.int .u8 2), .lit (.int .u8 29), .lit (.int .u8 14), .lit (.int .u8 24), .lit (.int .u8 3), .lit (.int .u8 30), .lit (.int .u8 22), .lit (.int .u8 20), .lit (.int .u8 15), .lit (.int .u8 25), .lit (.int .u8 17), .lit (.int .u8 4), .lit (.int .u8 8), .lit (.int .u8 31), .lit (.int .u8 27), .lit (.int .u8 13), .lit (.int .u8 23), .lit (.int .u8 21), .lit (.int .u8 19), .lit (.int .u8 16), .lit (.int .u8 7), .lit (.int .u8 26), .lit (.int .u8 12), .lit (.int .u8 18), .lit (.int .u8 6), .lit (.int .u8 11), .lit (.int .u8 5), .lit (.int .u8 10), .lit (.int .u8 9)]
def laid_math_bits_deBruijn64tab {H : Type} : DataW H := .agg [.lit (.int .u8 0), .lit (.int .u8 1), .lit (.int .u8 56), .lit (.int .u8 2), .lit (.int .u8 57), .lit (.int .u8 49), .lit (.int .u8 28), .lit (.int .u8 3), .lit (.int .u8 61), .lit (.int .u8 58), .lit (.int .u8 42), .lit (.int .u8 50), .lit (.int .u8 38), .lit (.int .u8 29), .lit (.int .u8 17), .lit (.int .u8 4), .lit (.int .u8 62), .lit (.int .u8 47), .lit (.int .u8 59), .lit (.int .u8 36), .lit (.int .u8 45), .lit (.int .u8 43), .lit (.int .u8 51), .lit (.int .u8 22), .lit (.int .u8 53), .lit (.int .u8 39), .lit (.int .u8 33), .lit (.int .u8 30), .lit (.int .u8 24), .lit (.int .u8 18), .lit (.int .u8 12), .lit (.int .u8 5), .lit (.int .u8 63), .lit (.int .u8 55), .lit (.int .u8 48), .lit (.int .u8 27), .lit (.int .u8 60), .lit (.int .u8 41), .lit (.int .u8 37), .lit (.int .u8 16), .lit (.int .u8 46), .lit (.int .u8 35), .lit (.int .u8 44), .lit (.int .u8 21), .lit (.int .u8 52), .lit (.int .u8 32), .lit (.int .u8 23), .lit (.int .u8 11), .lit (.int .u8 54), .lit (.int .u8 26), .lit (.int .u8 40), .lit (.int .u8 15), .lit (.int .u8 34), .lit (.int .u8 20), .lit (.int .u8 31), .lit (.int .u8 10), .lit (.int .u8 25), .lit (.int .u8 14), .lit (.int .u8 19), .lit (.int .u8 9), .lit (.int .u8 13), .lit (.int .u8 8), .lit (.int .u8 7), .lit (.int .u8 6)]
def laid_internal_strconv_uint64pow10 {H : Type} : DataW H := .agg [.lit (.int .u64 1), .lit (.int .u64 10), .lit (.int .u64 100), .lit (.int .u64 1000), .lit (.int .u64 10000), .lit (.int .u64 100000), .lit (.int .u64 1000000), .lit (.int .u64 10000000), .lit (.int .u64 100000000), .lit (.int .u64 1000000000), .lit (.int .u64 10000000000), .lit (.int .u64 100000000000), .lit (.int .u64 1000000000000), .lit (.int .u64 10000000000000), .lit (.int .u64 100000000000000), .lit (.int .u64 1000000000000000), .lit (.int .u64 10000000000000000), .lit (.int .u64 100000000000000000), .lit (.int .u64 1000000000000000000), .lit (.int .u64 10000000000000000000)]
def laid_moveout_image_steps {H : Type} : DataW H := .agg [.agg [.lit (.int .i64 (-1)), .lit (.int .i64 (-1))], .agg [.lit (.int .i64 0), .lit (.int .i64 (-1))], .agg [.lit (.int .i64 1), .lit (.int .i64 (-1))], .agg [.lit (.int .i64 (-1)), .lit (.int .i64 0)], .agg [.lit (.int .i64 1), .lit (.int .i64 0)], .agg [.lit (.int .i64 (-1)), .lit (.int .i64 1)], .agg [.lit (.int .i64 0), .lit (.int .i64 1)], .agg [.lit (.int .i64 1), .lit (.int .i64 1)]]
def laid_unicode_utf8_acceptRanges {H : Type} : DataW H := .agg [.agg [.lit (.int .u8 128), .lit (.int .u8 191)], .agg [.lit (.int .u8 160), .lit (.int .u8 191)], .agg [.lit (.int .u8 128), .lit (.int .u8 159)], .agg [.lit (.int .u8 144), .lit (.int .u8 191)], .agg [.lit (.int .u8 128), .lit (.int .u8 143)], .agg [.lit (.int .u8 0), .lit (.int .u8 0)], .agg [.lit (.int .u8 0), .lit (.int .u8 0)], .agg [.lit (.int .u8 0), .lit (.int .u8 0)], .agg [.lit (.int .u8 0), .lit (.int .u8 0)], .agg [.lit (.int .u8 0), .lit (.int .u8 0)], .agg [.lit (.int .u8 0), .lit (.int .u8 0)], .agg [.lit (.int .u8 0), .lit (.int .u8 0)], .agg [.lit (.int .u8 0), .lit (.int .u8 0)], .agg [.lit (.int .u8 0), .lit (.int .u8 0)], .agg [.lit (.int .u8 0), .lit (.int .u8 0)], .agg [.lit (.int .u8 0), .lit (.int .u8 0)]]
/-- One of Go's own tables, pinned by name: the form's constant. -/
def laid_unicode_utf8_first : DataW Unit := Go.Pinned.utf8First

/-- 'moveoutlaw07.ImageModels': WHATEVER THE INPUT: true; the input reads as it did. -/
def imageModelsSpec : ChangeSpec := { name := "imageModels", fn := fun _ => fun
  | [d1, d2, d3] => { results := [.lit (.bool true)], args := [d1, d2, d3] }
  | _ => none }
def imageModelsRow : OpenClaim := { program := "ytdimmlljjmmdbaagreatdoor", sum := "6a507ed749584c5a745fa8fb0e0fc722ac762a03bd45ba31c64ea5e28abffe6e", func := "moveout/moveoutlaw07.ImageModels", spec := "imageModels", inPlace := ["slices.overlaps[moveout/image.entry]", "internal/abi.NoEscape", "internal/bytealg.MakeNoZero"], unfollowed := true, recurses := true, named := ["moveout/image.steps", "internal/strconv.uint64pow10", "math/bits.deBruijn32tab", "math/bits.deBruijn64tab"], apart := false, laid := [("math/bits.deBruijn32tab", laid_math_bits_deBruijn32tab), ("math/bits.deBruijn64tab", laid_math_bits_deBruijn64tab), ("internal/strconv.uint64pow10", laid_internal_strconv_uint64pow10), ("moveout/image.steps", laid_moveout_image_steps)] }
def ImageModelsSaid : Prop := imageModelsRow.holds Tryz.pinned (OpenSpec.ofChange imageModelsSpec)

/-- ITS FALSE NEIGHBOUR: 'it returns false'. Refute it at one input. -/
def imageModelsWrong : ChangeSpec := { name := "imageModels", fn := fun _ => fun
  | [d1, d2, d3] => { results := [.lit (.bool false)], args := [d1, d2, d3] }
  | _ => none }
def ImageModelsWrongFalsely : Prop := imageModelsRow.holds Tryz.pinned (OpenSpec.ofChange imageModelsWrong)

/-- 'moveoutlaw07.ImageFits': WHATEVER THE INPUT: true; the input reads as it did. -/
def imageFitsSpec : ChangeSpec := { name := "imageFits", fn := fun _ => fun
  | [d1, d2, d3] => { results := [.lit (.bool true)], args := [d1, d2, d3] }
  | _ => none }
def imageFitsRow : OpenClaim := { program := "ytdimmlljjmmdbaagreatdoor", sum := "6a507ed749584c5a745fa8fb0e0fc722ac762a03bd45ba31c64ea5e28abffe6e", func := "moveout/moveoutlaw07.ImageFits", spec := "imageFits", inPlace := ["slices.overlaps[moveout/image.entry]", "internal/abi.NoEscape", "internal/bytealg.MakeNoZero"], unfollowed := true, recurses := true, named := ["moveout/image.steps", "internal/strconv.uint64pow10", "math/bits.deBruijn32tab", "math/bits.deBruijn64tab"], apart := false, laid := [("math/bits.deBruijn32tab", laid_math_bits_deBruijn32tab), ("math/bits.deBruijn64tab", laid_math_bits_deBruijn64tab), ("internal/strconv.uint64pow10", laid_internal_strconv_uint64pow10), ("moveout/image.steps", laid_moveout_image_steps)] }
def ImageFitsSaid : Prop := imageFitsRow.holds Tryz.pinned (OpenSpec.ofChange imageFitsSpec)

/-- ITS FALSE NEIGHBOUR: 'it returns false'. Refute it at one input. -/
def imageFitsWrong : ChangeSpec := { name := "imageFits", fn := fun _ => fun
  | [d1, d2, d3] => { results := [.lit (.bool false)], args := [d1, d2, d3] }
  | _ => none }
def ImageFitsWrongFalsely : Prop := imageFitsRow.holds Tryz.pinned (OpenSpec.ofChange imageFitsWrong)

/-- 'moveoutlaw07.ImageInners': WHATEVER THE INPUT: true; the input reads as it did. -/
def imageInnersSpec : ChangeSpec := { name := "imageInners", fn := fun _ => fun
  | [d1, d2] => { results := [.lit (.bool true)], args := [d1, d2] }
  | _ => none }
def imageInnersRow : OpenClaim := { program := "ytdimmlljjmmdbaagreatdoor", sum := "6a507ed749584c5a745fa8fb0e0fc722ac762a03bd45ba31c64ea5e28abffe6e", func := "moveout/moveoutlaw07.ImageInners", spec := "imageInners", inPlace := ["slices.overlaps[moveout/image.entry]", "internal/abi.NoEscape", "internal/bytealg.MakeNoZero"], unfollowed := true, recurses := true, named := ["moveout/image.steps", "internal/strconv.uint64pow10", "math/bits.deBruijn32tab", "math/bits.deBruijn64tab"], apart := false, laid := [("math/bits.deBruijn32tab", laid_math_bits_deBruijn32tab), ("math/bits.deBruijn64tab", laid_math_bits_deBruijn64tab), ("internal/strconv.uint64pow10", laid_internal_strconv_uint64pow10), ("moveout/image.steps", laid_moveout_image_steps)] }
def ImageInnersSaid : Prop := imageInnersRow.holds Tryz.pinned (OpenSpec.ofChange imageInnersSpec)

/-- ITS FALSE NEIGHBOUR: 'it returns false'. Refute it at one input. -/
def imageInnersWrong : ChangeSpec := { name := "imageInners", fn := fun _ => fun
  | [d1, d2] => { results := [.lit (.bool false)], args := [d1, d2] }
  | _ => none }
def ImageInnersWrongFalsely : Prop := imageInnersRow.holds Tryz.pinned (OpenSpec.ofChange imageInnersWrong)

/-- 'moveoutlaw07.ImageThrough': WHATEVER THE INPUT: true; the input reads as it did. -/
def imageThroughSpec : ChangeSpec := { name := "imageThrough", fn := fun _ => fun
  | [d1, d2, d3] => { results := [.lit (.bool true)], args := [d1, d2, d3] }
  | _ => none }
def imageThroughRow : OpenClaim := { program := "ytdimmlljjmmdbaagreatdoor", sum := "6a507ed749584c5a745fa8fb0e0fc722ac762a03bd45ba31c64ea5e28abffe6e", func := "moveout/moveoutlaw07.ImageThrough", spec := "imageThrough", inPlace := ["slices.overlaps[moveout/image.entry]", "internal/abi.NoEscape", "internal/bytealg.MakeNoZero"], unfollowed := true, recurses := true, named := ["moveout/image.steps", "internal/strconv.uint64pow10", "math/bits.deBruijn32tab", "math/bits.deBruijn64tab"], apart := false, laid := [("math/bits.deBruijn32tab", laid_math_bits_deBruijn32tab), ("math/bits.deBruijn64tab", laid_math_bits_deBruijn64tab), ("internal/strconv.uint64pow10", laid_internal_strconv_uint64pow10), ("moveout/image.steps", laid_moveout_image_steps)] }
def ImageThroughSaid : Prop := imageThroughRow.holds Tryz.pinned (OpenSpec.ofChange imageThroughSpec)

/-- ITS FALSE NEIGHBOUR: 'it returns false'. Refute it at one input. -/
def imageThroughWrong : ChangeSpec := { name := "imageThrough", fn := fun _ => fun
  | [d1, d2, d3] => { results := [.lit (.bool false)], args := [d1, d2, d3] }
  | _ => none }
def ImageThroughWrongFalsely : Prop := imageThroughRow.holds Tryz.pinned (OpenSpec.ofChange imageThroughWrong)

/-- 'moveoutlaw07.ImageBounded': WHATEVER THE INPUT: true; the input reads as it did. -/
def imageBoundedSpec : ChangeSpec := { name := "imageBounded", fn := fun _ => fun
  | [d1, d2, d3] => { results := [.lit (.bool true)], args := [d1, d2, d3] }
  | _ => none }
def imageBoundedRow : OpenClaim := { program := "ytdimmlljjmmdbaagreatdoor", sum := "6a507ed749584c5a745fa8fb0e0fc722ac762a03bd45ba31c64ea5e28abffe6e", func := "moveout/moveoutlaw07.ImageBounded", spec := "imageBounded", inPlace := ["slices.overlaps[moveout/image.entry]", "internal/abi.NoEscape", "internal/bytealg.MakeNoZero"], unfollowed := true, recurses := true, named := ["moveout/image.steps", "internal/strconv.uint64pow10", "math/bits.deBruijn32tab", "math/bits.deBruijn64tab"], apart := false, laid := [("math/bits.deBruijn32tab", laid_math_bits_deBruijn32tab), ("math/bits.deBruijn64tab", laid_math_bits_deBruijn64tab), ("internal/strconv.uint64pow10", laid_internal_strconv_uint64pow10), ("moveout/image.steps", laid_moveout_image_steps)] }
def ImageBoundedSaid : Prop := imageBoundedRow.holds Tryz.pinned (OpenSpec.ofChange imageBoundedSpec)

/-- ITS FALSE NEIGHBOUR: 'it returns false'. Refute it at one input. -/
def imageBoundedWrong : ChangeSpec := { name := "imageBounded", fn := fun _ => fun
  | [d1, d2, d3] => { results := [.lit (.bool false)], args := [d1, d2, d3] }
  | _ => none }
def ImageBoundedWrongFalsely : Prop := imageBoundedRow.holds Tryz.pinned (OpenSpec.ofChange imageBoundedWrong)

/-- 'moveoutlaw07.ImageImages': WHATEVER THE INPUT: true; the input reads as it did. -/
def imageImagesSpec : ChangeSpec := { name := "imageImages", fn := fun _ => fun
  | [d1, d2, d3] => { results := [.lit (.bool true)], args := [d1, d2, d3] }
  | _ => none }
def imageImagesRow : OpenClaim := { program := "ytdimmlljjmmdbaagreatdoor", sum := "6a507ed749584c5a745fa8fb0e0fc722ac762a03bd45ba31c64ea5e28abffe6e", func := "moveout/moveoutlaw07.ImageImages", spec := "imageImages", inPlace := ["slices.overlaps[moveout/image.entry]", "internal/abi.NoEscape", "internal/bytealg.MakeNoZero"], unfollowed := true, recurses := true, named := ["moveout/image.steps", "internal/strconv.uint64pow10", "math/bits.deBruijn32tab", "math/bits.deBruijn64tab"], apart := false, laid := [("math/bits.deBruijn32tab", laid_math_bits_deBruijn32tab), ("math/bits.deBruijn64tab", laid_math_bits_deBruijn64tab), ("internal/strconv.uint64pow10", laid_internal_strconv_uint64pow10), ("moveout/image.steps", laid_moveout_image_steps)] }
def ImageImagesSaid : Prop := imageImagesRow.holds Tryz.pinned (OpenSpec.ofChange imageImagesSpec)

/-- ITS FALSE NEIGHBOUR: 'it returns false'. Refute it at one input. -/
def imageImagesWrong : ChangeSpec := { name := "imageImages", fn := fun _ => fun
  | [d1, d2, d3] => { results := [.lit (.bool false)], args := [d1, d2, d3] }
  | _ => none }
def ImageImagesWrongFalsely : Prop := imageImagesRow.holds Tryz.pinned (OpenSpec.ofChange imageImagesWrong)

/-- 'moveoutlaw07.ImageAdjoint': WHATEVER THE INPUT: true; the input reads as it did. -/
def imageAdjointSpec : ChangeSpec := { name := "imageAdjoint", fn := fun _ => fun
  | [d1, d2, d3] => { results := [.lit (.bool true)], args := [d1, d2, d3] }
  | _ => none }
def imageAdjointRow : OpenClaim := { program := "ytdimmlljjmmdbaagreatdoor", sum := "6a507ed749584c5a745fa8fb0e0fc722ac762a03bd45ba31c64ea5e28abffe6e", func := "moveout/moveoutlaw07.ImageAdjoint", spec := "imageAdjoint", inPlace := ["slices.overlaps[moveout/image.entry]", "internal/abi.NoEscape", "internal/bytealg.MakeNoZero"], unfollowed := true, recurses := true, named := ["moveout/image.steps", "internal/strconv.uint64pow10", "math/bits.deBruijn32tab", "math/bits.deBruijn64tab"], apart := false, laid := [("math/bits.deBruijn32tab", laid_math_bits_deBruijn32tab), ("math/bits.deBruijn64tab", laid_math_bits_deBruijn64tab), ("internal/strconv.uint64pow10", laid_internal_strconv_uint64pow10), ("moveout/image.steps", laid_moveout_image_steps)] }
def ImageAdjointSaid : Prop := imageAdjointRow.holds Tryz.pinned (OpenSpec.ofChange imageAdjointSpec)

/-- ITS FALSE NEIGHBOUR: 'it returns false'. Refute it at one input. -/
def imageAdjointWrong : ChangeSpec := { name := "imageAdjoint", fn := fun _ => fun
  | [d1, d2, d3] => { results := [.lit (.bool false)], args := [d1, d2, d3] }
  | _ => none }
def ImageAdjointWrongFalsely : Prop := imageAdjointRow.holds Tryz.pinned (OpenSpec.ofChange imageAdjointWrong)

/-- 'moveoutlaw07.ImageTimes': WHATEVER THE INPUT: true; the input reads as it did. -/
def imageTimesSpec : ChangeSpec := { name := "imageTimes", fn := fun _ => fun
  | [d1, d2, d3] => { results := [.lit (.bool true)], args := [d1, d2, d3] }
  | _ => none }
def imageTimesRow : OpenClaim := { program := "ytdimmlljjmmdbaagreatdoor", sum := "6a507ed749584c5a745fa8fb0e0fc722ac762a03bd45ba31c64ea5e28abffe6e", func := "moveout/moveoutlaw07.ImageTimes", spec := "imageTimes", inPlace := ["slices.overlaps[moveout/image.entry]", "internal/abi.NoEscape", "internal/bytealg.MakeNoZero"], unfollowed := true, recurses := true, named := ["moveout/image.steps", "internal/strconv.uint64pow10", "math/bits.deBruijn32tab", "math/bits.deBruijn64tab"], apart := false, laid := [("math/bits.deBruijn32tab", laid_math_bits_deBruijn32tab), ("math/bits.deBruijn64tab", laid_math_bits_deBruijn64tab), ("internal/strconv.uint64pow10", laid_internal_strconv_uint64pow10), ("moveout/image.steps", laid_moveout_image_steps)] }
def ImageTimesSaid : Prop := imageTimesRow.holds Tryz.pinned (OpenSpec.ofChange imageTimesSpec)

/-- ITS FALSE NEIGHBOUR: 'it returns false'. Refute it at one input. -/
def imageTimesWrong : ChangeSpec := { name := "imageTimes", fn := fun _ => fun
  | [d1, d2, d3] => { results := [.lit (.bool false)], args := [d1, d2, d3] }
  | _ => none }
def ImageTimesWrongFalsely : Prop := imageTimesRow.holds Tryz.pinned (OpenSpec.ofChange imageTimesWrong)

/-- 'moveoutlaw07.ImageTurned': WHATEVER THE INPUT: true; the input reads as it did. -/
def imageTurnedSpec : ChangeSpec := { name := "imageTurned", fn := fun _ => fun
  | [d1, d2] => { results := [.lit (.bool true)], args := [d1, d2] }
  | _ => none }
def imageTurnedRow : OpenClaim := { program := "ytdimmlljjmmdbaagreatdoor", sum := "6a507ed749584c5a745fa8fb0e0fc722ac762a03bd45ba31c64ea5e28abffe6e", func := "moveout/moveoutlaw07.ImageTurned", spec := "imageTurned", inPlace := ["slices.overlaps[moveout/image.entry]", "internal/abi.NoEscape", "internal/bytealg.MakeNoZero"], unfollowed := true, recurses := true, named := ["moveout/image.steps", "internal/strconv.uint64pow10", "math/bits.deBruijn32tab", "math/bits.deBruijn64tab"], apart := false, laid := [("math/bits.deBruijn32tab", laid_math_bits_deBruijn32tab), ("math/bits.deBruijn64tab", laid_math_bits_deBruijn64tab), ("internal/strconv.uint64pow10", laid_internal_strconv_uint64pow10), ("moveout/image.steps", laid_moveout_image_steps)] }
def ImageTurnedSaid : Prop := imageTurnedRow.holds Tryz.pinned (OpenSpec.ofChange imageTurnedSpec)

/-- ITS FALSE NEIGHBOUR: 'it returns false'. Refute it at one input. -/
def imageTurnedWrong : ChangeSpec := { name := "imageTurned", fn := fun _ => fun
  | [d1, d2] => { results := [.lit (.bool false)], args := [d1, d2] }
  | _ => none }
def ImageTurnedWrongFalsely : Prop := imageTurnedRow.holds Tryz.pinned (OpenSpec.ofChange imageTurnedWrong)

/-- 'moveoutlaw07.ImageProofs': WHATEVER THE INPUT: true; the input reads as it did. -/
def imageProofsSpec : ChangeSpec := { name := "imageProofs", fn := fun _ => fun
  | [d1, d2] => { results := [.lit (.bool true)], args := [d1, d2] }
  | _ => none }
def imageProofsRow : OpenClaim := { program := "ytdimmlljjmmdbaagreatdoor", sum := "6a507ed749584c5a745fa8fb0e0fc722ac762a03bd45ba31c64ea5e28abffe6e", func := "moveout/moveoutlaw07.ImageProofs", spec := "imageProofs", inPlace := ["slices.overlaps[moveout/image.entry]", "internal/abi.NoEscape", "internal/bytealg.MakeNoZero"], unfollowed := true, recurses := true, named := ["moveout/image.steps", "internal/strconv.uint64pow10", "math/bits.deBruijn32tab", "math/bits.deBruijn64tab"], apart := false, laid := [("math/bits.deBruijn32tab", laid_math_bits_deBruijn32tab), ("math/bits.deBruijn64tab", laid_math_bits_deBruijn64tab), ("internal/strconv.uint64pow10", laid_internal_strconv_uint64pow10), ("moveout/image.steps", laid_moveout_image_steps)] }
def ImageProofsSaid : Prop := imageProofsRow.holds Tryz.pinned (OpenSpec.ofChange imageProofsSpec)

/-- ITS FALSE NEIGHBOUR: 'it returns false'. Refute it at one input. -/
def imageProofsWrong : ChangeSpec := { name := "imageProofs", fn := fun _ => fun
  | [d1, d2] => { results := [.lit (.bool false)], args := [d1, d2] }
  | _ => none }
def ImageProofsWrongFalsely : Prop := imageProofsRow.holds Tryz.pinned (OpenSpec.ofChange imageProofsWrong)

/-- 'moveoutlaw07.ImageRays': WHATEVER THE INPUT: true; the input reads as it did. -/
def imageRaysSpec : ChangeSpec := { name := "imageRays", fn := fun _ => fun
  | [d1, d2] => { results := [.lit (.bool true)], args := [d1, d2] }
  | _ => none }
def imageRaysRow : OpenClaim := { program := "ytdimmlljjmmdbaagreatdoor", sum := "6a507ed749584c5a745fa8fb0e0fc722ac762a03bd45ba31c64ea5e28abffe6e", func := "moveout/moveoutlaw07.ImageRays", spec := "imageRays", inPlace := ["slices.overlaps[moveout/image.entry]", "internal/abi.NoEscape", "internal/bytealg.MakeNoZero"], unfollowed := true, recurses := true, named := ["moveout/image.steps", "internal/strconv.uint64pow10", "math/bits.deBruijn32tab", "math/bits.deBruijn64tab"], apart := false, laid := [("math/bits.deBruijn32tab", laid_math_bits_deBruijn32tab), ("math/bits.deBruijn64tab", laid_math_bits_deBruijn64tab), ("internal/strconv.uint64pow10", laid_internal_strconv_uint64pow10), ("moveout/image.steps", laid_moveout_image_steps)] }
def ImageRaysSaid : Prop := imageRaysRow.holds Tryz.pinned (OpenSpec.ofChange imageRaysSpec)

/-- ITS FALSE NEIGHBOUR: 'it returns false'. Refute it at one input. -/
def imageRaysWrong : ChangeSpec := { name := "imageRays", fn := fun _ => fun
  | [d1, d2] => { results := [.lit (.bool false)], args := [d1, d2] }
  | _ => none }
def ImageRaysWrongFalsely : Prop := imageRaysRow.holds Tryz.pinned (OpenSpec.ofChange imageRaysWrong)

/-- 'moveoutlaw07.ImageTexts': WHATEVER THE INPUT: true; the input reads as it did. -/
def imageTextsSpec : ChangeSpec := { name := "imageTexts", fn := fun _ => fun
  | [d1, d2] => { results := [.lit (.bool true)], args := [d1, d2] }
  | _ => none }
def imageTextsRow : OpenClaim := { program := "ytdimmlljjmmdbaagreatdoor", sum := "6a507ed749584c5a745fa8fb0e0fc722ac762a03bd45ba31c64ea5e28abffe6e", func := "moveout/moveoutlaw07.ImageTexts", spec := "imageTexts", inPlace := ["slices.overlaps[moveout/image.entry]", "internal/abi.NoEscape", "internal/bytealg.MakeNoZero", "internal/bytealg.IndexByteString", "internal/bytealg.CountString", "internal/bytealg.IndexString"], unfollowed := true, recurses := true, named := ["moveout/image.steps", "internal/strconv.uint64pow10", "math/bits.deBruijn32tab", "math/bits.deBruijn64tab", "unicode/utf8.first", "unicode/utf8.acceptRanges", "internal/bytealg.MaxLen"], apart := false, laid := [("math/bits.deBruijn32tab", laid_math_bits_deBruijn32tab), ("math/bits.deBruijn64tab", laid_math_bits_deBruijn64tab), ("internal/strconv.uint64pow10", laid_internal_strconv_uint64pow10), ("unicode/utf8.acceptRanges", laid_unicode_utf8_acceptRanges), ("moveout/image.steps", laid_moveout_image_steps), ("unicode/utf8.first", laid_unicode_utf8_first)] }
def ImageTextsSaid : Prop := imageTextsRow.holds Tryz.pinned (OpenSpec.ofChange imageTextsSpec)

/-- ITS FALSE NEIGHBOUR: 'it returns false'. Refute it at one input. -/
def imageTextsWrong : ChangeSpec := { name := "imageTexts", fn := fun _ => fun
  | [d1, d2] => { results := [.lit (.bool false)], args := [d1, d2] }
  | _ => none }
def ImageTextsWrongFalsely : Prop := imageTextsRow.holds Tryz.pinned (OpenSpec.ofChange imageTextsWrong)

/-- 'moveoutlaw07.ImageBack': WHATEVER THE INPUT: true; the input reads as it did. -/
def imageBackSpec : ChangeSpec := { name := "imageBack", fn := fun _ => fun
  | [d1, d2] => { results := [.lit (.bool true)], args := [d1, d2] }
  | _ => none }
def imageBackRow : OpenClaim := { program := "ytdimmlljjmmdbaagreatdoor", sum := "6a507ed749584c5a745fa8fb0e0fc722ac762a03bd45ba31c64ea5e28abffe6e", func := "moveout/moveoutlaw07.ImageBack", spec := "imageBack", inPlace := ["slices.overlaps[moveout/image.entry]", "internal/abi.NoEscape", "internal/bytealg.MakeNoZero", "internal/bytealg.IndexByteString", "internal/bytealg.CountString", "internal/bytealg.IndexString"], unfollowed := true, recurses := true, named := ["moveout/image.steps", "internal/strconv.uint64pow10", "math/bits.deBruijn32tab", "math/bits.deBruijn64tab", "unicode/utf8.first", "unicode/utf8.acceptRanges", "internal/bytealg.MaxLen"], apart := false, laid := [("math/bits.deBruijn32tab", laid_math_bits_deBruijn32tab), ("math/bits.deBruijn64tab", laid_math_bits_deBruijn64tab), ("internal/strconv.uint64pow10", laid_internal_strconv_uint64pow10), ("unicode/utf8.acceptRanges", laid_unicode_utf8_acceptRanges), ("moveout/image.steps", laid_moveout_image_steps), ("unicode/utf8.first", laid_unicode_utf8_first)] }
def ImageBackSaid : Prop := imageBackRow.holds Tryz.pinned (OpenSpec.ofChange imageBackSpec)

/-- ITS FALSE NEIGHBOUR: 'it returns false'. Refute it at one input. -/
def imageBackWrong : ChangeSpec := { name := "imageBack", fn := fun _ => fun
  | [d1, d2] => { results := [.lit (.bool false)], args := [d1, d2] }
  | _ => none }
def ImageBackWrongFalsely : Prop := imageBackRow.holds Tryz.pinned (OpenSpec.ofChange imageBackWrong)

/- THE SECOND FORM. 'bulk': how many values and letters a reading holds, each counted each time it is reached (what is shared counts as often as it is met; a slice's spare places count too). A statement '..UptoSaid' is the law's where the arguments, and the package variables that the reading takes, are together of bulk at most 1048576: NARROWER than '..Said'. Prove '..Said' where nothing that the law and all that it calls make is longer than what came in: it says more and counts as full. Else prove '..UptoSaid'. A law counts once. -/
mutual
def uptoBulk {H : Type} : DataW H → Nat
  | .lit (.string bytes) => bytes.length + 1
  | .lit _ => 1
  | .nil => 1
  | .ptr d => uptoBulk d + 1
  | .slice elems spare => uptoBulkAll elems + uptoBulkAll spare + 1
  | .agg parts => uptoBulkAll parts + 1
  | .iface _ d => uptoBulk d + 1
  | .map entries => uptoBulkEntries entries + 1
  | .held _ => 1
def uptoBulkAll {H : Type} : List (DataW H) → Nat
  | [] => 0
  | d :: r => uptoBulk d + uptoBulkAll r
def uptoBulkEntries {H : Type} : List (Lit × DataW H) → Nat
  | [] => 0
  | x :: r => uptoBulkEntry x + uptoBulkEntries r
def uptoBulkEntry {H : Type} : Lit × DataW H → Nat
  | (.string bytes, d) => bytes.length + uptoBulk d + 1
  | (_, d) => uptoBulk d + 1
 end
def uptoSmall : (H : Type) → List (DataW H) → Bool := fun _ ds => decide (uptoBulkAll ds ≤ 1048576)
def OpenSpec.upto (s : _root_.Go.ChangeSpec) : _root_.Go.OpenSpec := { _root_.Go.OpenSpec.ofChange s with cond := some uptoSmall }

/-- 'moveoutlaw07.ImageModels', WHERE WHAT IT READS IS OF BULK AT MOST 1048576: true; the input reads as it did. -/
def imageModelsUptoRow : OpenClaim := { program := "ytdimmlljjmmdbaagreatdoor", sum := "6a507ed749584c5a745fa8fb0e0fc722ac762a03bd45ba31c64ea5e28abffe6e", func := "moveout/moveoutlaw07.ImageModels", spec := "imageModels", inPlace := ["slices.overlaps[moveout/image.entry]", "internal/abi.NoEscape", "internal/bytealg.MakeNoZero"], unfollowed := true, recurses := true, named := ["moveout/image.steps", "internal/strconv.uint64pow10", "math/bits.deBruijn32tab", "math/bits.deBruijn64tab"], apart := false, laid := [("math/bits.deBruijn32tab", laid_math_bits_deBruijn32tab), ("math/bits.deBruijn64tab", laid_math_bits_deBruijn64tab), ("internal/strconv.uint64pow10", laid_internal_strconv_uint64pow10), ("moveout/image.steps", laid_moveout_image_steps)], narrowed := true }
def ImageModelsUptoSaid : Prop := imageModelsUptoRow.holds Tryz.pinned (OpenSpec.upto imageModelsSpec)

/-- 'moveoutlaw07.ImageFits', WHERE WHAT IT READS IS OF BULK AT MOST 1048576: true; the input reads as it did. -/
def imageFitsUptoRow : OpenClaim := { program := "ytdimmlljjmmdbaagreatdoor", sum := "6a507ed749584c5a745fa8fb0e0fc722ac762a03bd45ba31c64ea5e28abffe6e", func := "moveout/moveoutlaw07.ImageFits", spec := "imageFits", inPlace := ["slices.overlaps[moveout/image.entry]", "internal/abi.NoEscape", "internal/bytealg.MakeNoZero"], unfollowed := true, recurses := true, named := ["moveout/image.steps", "internal/strconv.uint64pow10", "math/bits.deBruijn32tab", "math/bits.deBruijn64tab"], apart := false, laid := [("math/bits.deBruijn32tab", laid_math_bits_deBruijn32tab), ("math/bits.deBruijn64tab", laid_math_bits_deBruijn64tab), ("internal/strconv.uint64pow10", laid_internal_strconv_uint64pow10), ("moveout/image.steps", laid_moveout_image_steps)], narrowed := true }
def ImageFitsUptoSaid : Prop := imageFitsUptoRow.holds Tryz.pinned (OpenSpec.upto imageFitsSpec)

/-- 'moveoutlaw07.ImageInners', WHERE WHAT IT READS IS OF BULK AT MOST 1048576: true; the input reads as it did. -/
def imageInnersUptoRow : OpenClaim := { program := "ytdimmlljjmmdbaagreatdoor", sum := "6a507ed749584c5a745fa8fb0e0fc722ac762a03bd45ba31c64ea5e28abffe6e", func := "moveout/moveoutlaw07.ImageInners", spec := "imageInners", inPlace := ["slices.overlaps[moveout/image.entry]", "internal/abi.NoEscape", "internal/bytealg.MakeNoZero"], unfollowed := true, recurses := true, named := ["moveout/image.steps", "internal/strconv.uint64pow10", "math/bits.deBruijn32tab", "math/bits.deBruijn64tab"], apart := false, laid := [("math/bits.deBruijn32tab", laid_math_bits_deBruijn32tab), ("math/bits.deBruijn64tab", laid_math_bits_deBruijn64tab), ("internal/strconv.uint64pow10", laid_internal_strconv_uint64pow10), ("moveout/image.steps", laid_moveout_image_steps)], narrowed := true }
def ImageInnersUptoSaid : Prop := imageInnersUptoRow.holds Tryz.pinned (OpenSpec.upto imageInnersSpec)

/-- 'moveoutlaw07.ImageThrough', WHERE WHAT IT READS IS OF BULK AT MOST 1048576: true; the input reads as it did. -/
def imageThroughUptoRow : OpenClaim := { program := "ytdimmlljjmmdbaagreatdoor", sum := "6a507ed749584c5a745fa8fb0e0fc722ac762a03bd45ba31c64ea5e28abffe6e", func := "moveout/moveoutlaw07.ImageThrough", spec := "imageThrough", inPlace := ["slices.overlaps[moveout/image.entry]", "internal/abi.NoEscape", "internal/bytealg.MakeNoZero"], unfollowed := true, recurses := true, named := ["moveout/image.steps", "internal/strconv.uint64pow10", "math/bits.deBruijn32tab", "math/bits.deBruijn64tab"], apart := false, laid := [("math/bits.deBruijn32tab", laid_math_bits_deBruijn32tab), ("math/bits.deBruijn64tab", laid_math_bits_deBruijn64tab), ("internal/strconv.uint64pow10", laid_internal_strconv_uint64pow10), ("moveout/image.steps", laid_moveout_image_steps)], narrowed := true }
def ImageThroughUptoSaid : Prop := imageThroughUptoRow.holds Tryz.pinned (OpenSpec.upto imageThroughSpec)

/-- 'moveoutlaw07.ImageBounded', WHERE WHAT IT READS IS OF BULK AT MOST 1048576: true; the input reads as it did. -/
def imageBoundedUptoRow : OpenClaim := { program := "ytdimmlljjmmdbaagreatdoor", sum := "6a507ed749584c5a745fa8fb0e0fc722ac762a03bd45ba31c64ea5e28abffe6e", func := "moveout/moveoutlaw07.ImageBounded", spec := "imageBounded", inPlace := ["slices.overlaps[moveout/image.entry]", "internal/abi.NoEscape", "internal/bytealg.MakeNoZero"], unfollowed := true, recurses := true, named := ["moveout/image.steps", "internal/strconv.uint64pow10", "math/bits.deBruijn32tab", "math/bits.deBruijn64tab"], apart := false, laid := [("math/bits.deBruijn32tab", laid_math_bits_deBruijn32tab), ("math/bits.deBruijn64tab", laid_math_bits_deBruijn64tab), ("internal/strconv.uint64pow10", laid_internal_strconv_uint64pow10), ("moveout/image.steps", laid_moveout_image_steps)], narrowed := true }
def ImageBoundedUptoSaid : Prop := imageBoundedUptoRow.holds Tryz.pinned (OpenSpec.upto imageBoundedSpec)

/-- 'moveoutlaw07.ImageImages', WHERE WHAT IT READS IS OF BULK AT MOST 1048576: true; the input reads as it did. -/
def imageImagesUptoRow : OpenClaim := { program := "ytdimmlljjmmdbaagreatdoor", sum := "6a507ed749584c5a745fa8fb0e0fc722ac762a03bd45ba31c64ea5e28abffe6e", func := "moveout/moveoutlaw07.ImageImages", spec := "imageImages", inPlace := ["slices.overlaps[moveout/image.entry]", "internal/abi.NoEscape", "internal/bytealg.MakeNoZero"], unfollowed := true, recurses := true, named := ["moveout/image.steps", "internal/strconv.uint64pow10", "math/bits.deBruijn32tab", "math/bits.deBruijn64tab"], apart := false, laid := [("math/bits.deBruijn32tab", laid_math_bits_deBruijn32tab), ("math/bits.deBruijn64tab", laid_math_bits_deBruijn64tab), ("internal/strconv.uint64pow10", laid_internal_strconv_uint64pow10), ("moveout/image.steps", laid_moveout_image_steps)], narrowed := true }
def ImageImagesUptoSaid : Prop := imageImagesUptoRow.holds Tryz.pinned (OpenSpec.upto imageImagesSpec)

/-- 'moveoutlaw07.ImageAdjoint', WHERE WHAT IT READS IS OF BULK AT MOST 1048576: true; the input reads as it did. -/
def imageAdjointUptoRow : OpenClaim := { program := "ytdimmlljjmmdbaagreatdoor", sum := "6a507ed749584c5a745fa8fb0e0fc722ac762a03bd45ba31c64ea5e28abffe6e", func := "moveout/moveoutlaw07.ImageAdjoint", spec := "imageAdjoint", inPlace := ["slices.overlaps[moveout/image.entry]", "internal/abi.NoEscape", "internal/bytealg.MakeNoZero"], unfollowed := true, recurses := true, named := ["moveout/image.steps", "internal/strconv.uint64pow10", "math/bits.deBruijn32tab", "math/bits.deBruijn64tab"], apart := false, laid := [("math/bits.deBruijn32tab", laid_math_bits_deBruijn32tab), ("math/bits.deBruijn64tab", laid_math_bits_deBruijn64tab), ("internal/strconv.uint64pow10", laid_internal_strconv_uint64pow10), ("moveout/image.steps", laid_moveout_image_steps)], narrowed := true }
def ImageAdjointUptoSaid : Prop := imageAdjointUptoRow.holds Tryz.pinned (OpenSpec.upto imageAdjointSpec)

/-- 'moveoutlaw07.ImageTimes', WHERE WHAT IT READS IS OF BULK AT MOST 1048576: true; the input reads as it did. -/
def imageTimesUptoRow : OpenClaim := { program := "ytdimmlljjmmdbaagreatdoor", sum := "6a507ed749584c5a745fa8fb0e0fc722ac762a03bd45ba31c64ea5e28abffe6e", func := "moveout/moveoutlaw07.ImageTimes", spec := "imageTimes", inPlace := ["slices.overlaps[moveout/image.entry]", "internal/abi.NoEscape", "internal/bytealg.MakeNoZero"], unfollowed := true, recurses := true, named := ["moveout/image.steps", "internal/strconv.uint64pow10", "math/bits.deBruijn32tab", "math/bits.deBruijn64tab"], apart := false, laid := [("math/bits.deBruijn32tab", laid_math_bits_deBruijn32tab), ("math/bits.deBruijn64tab", laid_math_bits_deBruijn64tab), ("internal/strconv.uint64pow10", laid_internal_strconv_uint64pow10), ("moveout/image.steps", laid_moveout_image_steps)], narrowed := true }
def ImageTimesUptoSaid : Prop := imageTimesUptoRow.holds Tryz.pinned (OpenSpec.upto imageTimesSpec)

/-- 'moveoutlaw07.ImageTurned', WHERE WHAT IT READS IS OF BULK AT MOST 1048576: true; the input reads as it did. -/
def imageTurnedUptoRow : OpenClaim := { program := "ytdimmlljjmmdbaagreatdoor", sum := "6a507ed749584c5a745fa8fb0e0fc722ac762a03bd45ba31c64ea5e28abffe6e", func := "moveout/moveoutlaw07.ImageTurned", spec := "imageTurned", inPlace := ["slices.overlaps[moveout/image.entry]", "internal/abi.NoEscape", "internal/bytealg.MakeNoZero"], unfollowed := true, recurses := true, named := ["moveout/image.steps", "internal/strconv.uint64pow10", "math/bits.deBruijn32tab", "math/bits.deBruijn64tab"], apart := false, laid := [("math/bits.deBruijn32tab", laid_math_bits_deBruijn32tab), ("math/bits.deBruijn64tab", laid_math_bits_deBruijn64tab), ("internal/strconv.uint64pow10", laid_internal_strconv_uint64pow10), ("moveout/image.steps", laid_moveout_image_steps)], narrowed := true }
def ImageTurnedUptoSaid : Prop := imageTurnedUptoRow.holds Tryz.pinned (OpenSpec.upto imageTurnedSpec)

/-- 'moveoutlaw07.ImageProofs', WHERE WHAT IT READS IS OF BULK AT MOST 1048576: true; the input reads as it did. -/
def imageProofsUptoRow : OpenClaim := { program := "ytdimmlljjmmdbaagreatdoor", sum := "6a507ed749584c5a745fa8fb0e0fc722ac762a03bd45ba31c64ea5e28abffe6e", func := "moveout/moveoutlaw07.ImageProofs", spec := "imageProofs", inPlace := ["slices.overlaps[moveout/image.entry]", "internal/abi.NoEscape", "internal/bytealg.MakeNoZero"], unfollowed := true, recurses := true, named := ["moveout/image.steps", "internal/strconv.uint64pow10", "math/bits.deBruijn32tab", "math/bits.deBruijn64tab"], apart := false, laid := [("math/bits.deBruijn32tab", laid_math_bits_deBruijn32tab), ("math/bits.deBruijn64tab", laid_math_bits_deBruijn64tab), ("internal/strconv.uint64pow10", laid_internal_strconv_uint64pow10), ("moveout/image.steps", laid_moveout_image_steps)], narrowed := true }
def ImageProofsUptoSaid : Prop := imageProofsUptoRow.holds Tryz.pinned (OpenSpec.upto imageProofsSpec)

/-- 'moveoutlaw07.ImageRays', WHERE WHAT IT READS IS OF BULK AT MOST 1048576: true; the input reads as it did. -/
def imageRaysUptoRow : OpenClaim := { program := "ytdimmlljjmmdbaagreatdoor", sum := "6a507ed749584c5a745fa8fb0e0fc722ac762a03bd45ba31c64ea5e28abffe6e", func := "moveout/moveoutlaw07.ImageRays", spec := "imageRays", inPlace := ["slices.overlaps[moveout/image.entry]", "internal/abi.NoEscape", "internal/bytealg.MakeNoZero"], unfollowed := true, recurses := true, named := ["moveout/image.steps", "internal/strconv.uint64pow10", "math/bits.deBruijn32tab", "math/bits.deBruijn64tab"], apart := false, laid := [("math/bits.deBruijn32tab", laid_math_bits_deBruijn32tab), ("math/bits.deBruijn64tab", laid_math_bits_deBruijn64tab), ("internal/strconv.uint64pow10", laid_internal_strconv_uint64pow10), ("moveout/image.steps", laid_moveout_image_steps)], narrowed := true }
def ImageRaysUptoSaid : Prop := imageRaysUptoRow.holds Tryz.pinned (OpenSpec.upto imageRaysSpec)

/-- 'moveoutlaw07.ImageTexts', WHERE WHAT IT READS IS OF BULK AT MOST 1048576: true; the input reads as it did. -/
def imageTextsUptoRow : OpenClaim := { program := "ytdimmlljjmmdbaagreatdoor", sum := "6a507ed749584c5a745fa8fb0e0fc722ac762a03bd45ba31c64ea5e28abffe6e", func := "moveout/moveoutlaw07.ImageTexts", spec := "imageTexts", inPlace := ["slices.overlaps[moveout/image.entry]", "internal/abi.NoEscape", "internal/bytealg.MakeNoZero", "internal/bytealg.IndexByteString", "internal/bytealg.CountString", "internal/bytealg.IndexString"], unfollowed := true, recurses := true, named := ["moveout/image.steps", "internal/strconv.uint64pow10", "math/bits.deBruijn32tab", "math/bits.deBruijn64tab", "unicode/utf8.first", "unicode/utf8.acceptRanges", "internal/bytealg.MaxLen"], apart := false, laid := [("math/bits.deBruijn32tab", laid_math_bits_deBruijn32tab), ("math/bits.deBruijn64tab", laid_math_bits_deBruijn64tab), ("internal/strconv.uint64pow10", laid_internal_strconv_uint64pow10), ("unicode/utf8.acceptRanges", laid_unicode_utf8_acceptRanges), ("moveout/image.steps", laid_moveout_image_steps), ("unicode/utf8.first", laid_unicode_utf8_first)], narrowed := true }
def ImageTextsUptoSaid : Prop := imageTextsUptoRow.holds Tryz.pinned (OpenSpec.upto imageTextsSpec)

/-- 'moveoutlaw07.ImageBack', WHERE WHAT IT READS IS OF BULK AT MOST 1048576: true; the input reads as it did. -/
def imageBackUptoRow : OpenClaim := { program := "ytdimmlljjmmdbaagreatdoor", sum := "6a507ed749584c5a745fa8fb0e0fc722ac762a03bd45ba31c64ea5e28abffe6e", func := "moveout/moveoutlaw07.ImageBack", spec := "imageBack", inPlace := ["slices.overlaps[moveout/image.entry]", "internal/abi.NoEscape", "internal/bytealg.MakeNoZero", "internal/bytealg.IndexByteString", "internal/bytealg.CountString", "internal/bytealg.IndexString"], unfollowed := true, recurses := true, named := ["moveout/image.steps", "internal/strconv.uint64pow10", "math/bits.deBruijn32tab", "math/bits.deBruijn64tab", "unicode/utf8.first", "unicode/utf8.acceptRanges", "internal/bytealg.MaxLen"], apart := false, laid := [("math/bits.deBruijn32tab", laid_math_bits_deBruijn32tab), ("math/bits.deBruijn64tab", laid_math_bits_deBruijn64tab), ("internal/strconv.uint64pow10", laid_internal_strconv_uint64pow10), ("unicode/utf8.acceptRanges", laid_unicode_utf8_acceptRanges), ("moveout/image.steps", laid_moveout_image_steps), ("unicode/utf8.first", laid_unicode_utf8_first)], narrowed := true }
def ImageBackUptoSaid : Prop := imageBackUptoRow.holds Tryz.pinned (OpenSpec.upto imageBackSpec)

end Rows
end Go.Proofs.YtdimmlljjmmdbaaGreatDoor
