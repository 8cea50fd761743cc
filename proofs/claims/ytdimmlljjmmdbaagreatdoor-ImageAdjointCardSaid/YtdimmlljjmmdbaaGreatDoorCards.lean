/-
  DERIVED. GIVEN WITH THE SEED: THE CARDS: each row of YtdimmlljjmmdbaaGreatDoorRows.lean that lists a variable, with what it lists TIED to the program's text (the seventh form; the later family's looks); each row that meets fmt, with fmt's text TOLD by the authors' own Lean function (tested against real Go, not proved from fmt's source: count such statements apart). THE CARD IS WHAT COUNTS. Prove the row's statement (the work); the ties are given (YtdimmlljjmmdbaaGreatDoorTie.lean); close each card by the builder's one call (the guide's Derived/Test/ToyasCard.lean, 'card_holds'). Laid BY PROGRAM, IN A SANDBOX (cutbox-door.mjs). By AI agents, Wed Nov 11 2026. No macro, syntax, notation, axiom, sorry.
-/
import Derived.Test.YtdimmlljjmmdbaaGreatDoorRows
import GoSem.ClaimSeven
namespace Go.Proofs.YtdimmlljjmmdbaaGreatDoor
namespace Rows

/-- THE TIED CARD OF 'moveoutlaw07.ImageModels'. -/
def imageModelsCard : Claim7 := { stood := { row := imageModelsRow, standIns := [], harness := (true, "44b077007a873d30382693c9709a71980a7a4d8af60bb61de45130ea9a3bb8a3"), looks := false }, kinds := [], alts := [], laidByText := true, laidKinds := [.data, .data, .data, .data], laidTests := true, laidLooks := .later }
def ImageModelsCardSaid : Prop := Claim7.holds Tryz.pinned (.plain (OpenSpec.ofChange imageModelsSpec)) imageModelsCard

/-- THE TIED CARD OF 'moveoutlaw07.ImageFits'. -/
def imageFitsCard : Claim7 := { stood := { row := imageFitsRow, standIns := [], harness := (true, "44b077007a873d30382693c9709a71980a7a4d8af60bb61de45130ea9a3bb8a3"), looks := false }, kinds := [], alts := [], laidByText := true, laidKinds := [.data, .data, .data, .data], laidTests := true, laidLooks := .later }
def ImageFitsCardSaid : Prop := Claim7.holds Tryz.pinned (.plain (OpenSpec.ofChange imageFitsSpec)) imageFitsCard

/-- THE TIED CARD OF 'moveoutlaw07.ImageInners'. -/
def imageInnersCard : Claim7 := { stood := { row := imageInnersRow, standIns := [], harness := (true, "44b077007a873d30382693c9709a71980a7a4d8af60bb61de45130ea9a3bb8a3"), looks := false }, kinds := [], alts := [], laidByText := true, laidKinds := [.data, .data, .data, .data], laidTests := true, laidLooks := .later }
def ImageInnersCardSaid : Prop := Claim7.holds Tryz.pinned (.plain (OpenSpec.ofChange imageInnersSpec)) imageInnersCard

/-- THE TIED CARD OF 'moveoutlaw07.ImageThrough'. -/
def imageThroughCard : Claim7 := { stood := { row := imageThroughRow, standIns := [], harness := (true, "44b077007a873d30382693c9709a71980a7a4d8af60bb61de45130ea9a3bb8a3"), looks := false }, kinds := [], alts := [], laidByText := true, laidKinds := [.data, .data, .data, .data], laidTests := true, laidLooks := .later }
def ImageThroughCardSaid : Prop := Claim7.holds Tryz.pinned (.plain (OpenSpec.ofChange imageThroughSpec)) imageThroughCard

/-- THE TIED CARD OF 'moveoutlaw07.ImageBounded'. -/
def imageBoundedCard : Claim7 := { stood := { row := imageBoundedRow, standIns := [], harness := (true, "44b077007a873d30382693c9709a71980a7a4d8af60bb61de45130ea9a3bb8a3"), looks := false }, kinds := [], alts := [], laidByText := true, laidKinds := [.data, .data, .data, .data], laidTests := true, laidLooks := .later }
def ImageBoundedCardSaid : Prop := Claim7.holds Tryz.pinned (.plain (OpenSpec.ofChange imageBoundedSpec)) imageBoundedCard

/-- THE TIED CARD OF 'moveoutlaw07.ImageImages'. -/
def imageImagesCard : Claim7 := { stood := { row := imageImagesRow, standIns := [], harness := (true, "44b077007a873d30382693c9709a71980a7a4d8af60bb61de45130ea9a3bb8a3"), looks := false }, kinds := [], alts := [], laidByText := true, laidKinds := [.data, .data, .data, .data], laidTests := true, laidLooks := .later }
def ImageImagesCardSaid : Prop := Claim7.holds Tryz.pinned (.plain (OpenSpec.ofChange imageImagesSpec)) imageImagesCard

/-- THE TIED CARD OF 'moveoutlaw07.ImageAdjoint'. -/
def imageAdjointCard : Claim7 := { stood := { row := imageAdjointRow, standIns := [], harness := (true, "44b077007a873d30382693c9709a71980a7a4d8af60bb61de45130ea9a3bb8a3"), looks := false }, kinds := [], alts := [], laidByText := true, laidKinds := [.data, .data, .data, .data], laidTests := true, laidLooks := .later }
def ImageAdjointCardSaid : Prop := Claim7.holds Tryz.pinned (.plain (OpenSpec.ofChange imageAdjointSpec)) imageAdjointCard

/-- THE TIED CARD OF 'moveoutlaw07.ImageTimes'. -/
def imageTimesCard : Claim7 := { stood := { row := imageTimesRow, standIns := [], harness := (true, "44b077007a873d30382693c9709a71980a7a4d8af60bb61de45130ea9a3bb8a3"), looks := false }, kinds := [], alts := [], laidByText := true, laidKinds := [.data, .data, .data, .data], laidTests := true, laidLooks := .later }
def ImageTimesCardSaid : Prop := Claim7.holds Tryz.pinned (.plain (OpenSpec.ofChange imageTimesSpec)) imageTimesCard

/-- THE TIED CARD OF 'moveoutlaw07.ImageTurned'. -/
def imageTurnedCard : Claim7 := { stood := { row := imageTurnedRow, standIns := [], harness := (true, "44b077007a873d30382693c9709a71980a7a4d8af60bb61de45130ea9a3bb8a3"), looks := false }, kinds := [], alts := [], laidByText := true, laidKinds := [.data, .data, .data, .data], laidTests := true, laidLooks := .later }
def ImageTurnedCardSaid : Prop := Claim7.holds Tryz.pinned (.plain (OpenSpec.ofChange imageTurnedSpec)) imageTurnedCard

/-- THE TIED CARD OF 'moveoutlaw07.ImageProofs'. -/
def imageProofsCard : Claim7 := { stood := { row := imageProofsRow, standIns := [], harness := (true, "44b077007a873d30382693c9709a71980a7a4d8af60bb61de45130ea9a3bb8a3"), looks := false }, kinds := [], alts := [], laidByText := true, laidKinds := [.data, .data, .data, .data], laidTests := true, laidLooks := .later }
def ImageProofsCardSaid : Prop := Claim7.holds Tryz.pinned (.plain (OpenSpec.ofChange imageProofsSpec)) imageProofsCard

/-- THE TIED CARD OF 'moveoutlaw07.ImageRays'. -/
def imageRaysCard : Claim7 := { stood := { row := imageRaysRow, standIns := [], harness := (true, "44b077007a873d30382693c9709a71980a7a4d8af60bb61de45130ea9a3bb8a3"), looks := false }, kinds := [], alts := [], laidByText := true, laidKinds := [.data, .data, .data, .data], laidTests := true, laidLooks := .later }
def ImageRaysCardSaid : Prop := Claim7.holds Tryz.pinned (.plain (OpenSpec.ofChange imageRaysSpec)) imageRaysCard

/-- THE TIED CARD OF 'moveoutlaw07.ImageTexts'. -/
def imageTextsCard : Claim7 := { stood := { row := imageTextsRow, standIns := [], harness := (true, "44b077007a873d30382693c9709a71980a7a4d8af60bb61de45130ea9a3bb8a3"), looks := false }, kinds := [], alts := [], laidByText := true, laidKinds := [.data, .data, .data, .data, .data, .pinned], laidTests := true, laidLooks := .later }
def ImageTextsCardSaid : Prop := Claim7.holds Tryz.pinned (.plain (OpenSpec.ofChange imageTextsSpec)) imageTextsCard

/-- THE TIED CARD OF 'moveoutlaw07.ImageBack'. -/
def imageBackCard : Claim7 := { stood := { row := imageBackRow, standIns := [], harness := (true, "44b077007a873d30382693c9709a71980a7a4d8af60bb61de45130ea9a3bb8a3"), looks := false }, kinds := [], alts := [], laidByText := true, laidKinds := [.data, .data, .data, .data, .data, .pinned], laidTests := true, laidLooks := .later }
def ImageBackCardSaid : Prop := Claim7.holds Tryz.pinned (.plain (OpenSpec.ofChange imageBackSpec)) imageBackCard

/-- THE SECOND FORM's CARD OF 'moveoutlaw07.ImageModels'. -/
def imageModelsUptoCard : Claim7 := { stood := { row := imageModelsUptoRow, standIns := [], harness := (true, "44b077007a873d30382693c9709a71980a7a4d8af60bb61de45130ea9a3bb8a3"), looks := false }, kinds := [], alts := [], laidByText := true, laidKinds := [.data, .data, .data, .data], laidTests := true, laidLooks := .later }
def ImageModelsUptoCardSaid : Prop := Claim7.holds Tryz.pinned (.plain (OpenSpec.upto imageModelsSpec)) imageModelsUptoCard

/-- THE SECOND FORM's CARD OF 'moveoutlaw07.ImageFits'. -/
def imageFitsUptoCard : Claim7 := { stood := { row := imageFitsUptoRow, standIns := [], harness := (true, "44b077007a873d30382693c9709a71980a7a4d8af60bb61de45130ea9a3bb8a3"), looks := false }, kinds := [], alts := [], laidByText := true, laidKinds := [.data, .data, .data, .data], laidTests := true, laidLooks := .later }
def ImageFitsUptoCardSaid : Prop := Claim7.holds Tryz.pinned (.plain (OpenSpec.upto imageFitsSpec)) imageFitsUptoCard

/-- THE SECOND FORM's CARD OF 'moveoutlaw07.ImageInners'. -/
def imageInnersUptoCard : Claim7 := { stood := { row := imageInnersUptoRow, standIns := [], harness := (true, "44b077007a873d30382693c9709a71980a7a4d8af60bb61de45130ea9a3bb8a3"), looks := false }, kinds := [], alts := [], laidByText := true, laidKinds := [.data, .data, .data, .data], laidTests := true, laidLooks := .later }
def ImageInnersUptoCardSaid : Prop := Claim7.holds Tryz.pinned (.plain (OpenSpec.upto imageInnersSpec)) imageInnersUptoCard

/-- THE SECOND FORM's CARD OF 'moveoutlaw07.ImageThrough'. -/
def imageThroughUptoCard : Claim7 := { stood := { row := imageThroughUptoRow, standIns := [], harness := (true, "44b077007a873d30382693c9709a71980a7a4d8af60bb61de45130ea9a3bb8a3"), looks := false }, kinds := [], alts := [], laidByText := true, laidKinds := [.data, .data, .data, .data], laidTests := true, laidLooks := .later }
def ImageThroughUptoCardSaid : Prop := Claim7.holds Tryz.pinned (.plain (OpenSpec.upto imageThroughSpec)) imageThroughUptoCard

/-- THE SECOND FORM's CARD OF 'moveoutlaw07.ImageBounded'. -/
def imageBoundedUptoCard : Claim7 := { stood := { row := imageBoundedUptoRow, standIns := [], harness := (true, "44b077007a873d30382693c9709a71980a7a4d8af60bb61de45130ea9a3bb8a3"), looks := false }, kinds := [], alts := [], laidByText := true, laidKinds := [.data, .data, .data, .data], laidTests := true, laidLooks := .later }
def ImageBoundedUptoCardSaid : Prop := Claim7.holds Tryz.pinned (.plain (OpenSpec.upto imageBoundedSpec)) imageBoundedUptoCard

/-- THE SECOND FORM's CARD OF 'moveoutlaw07.ImageImages'. -/
def imageImagesUptoCard : Claim7 := { stood := { row := imageImagesUptoRow, standIns := [], harness := (true, "44b077007a873d30382693c9709a71980a7a4d8af60bb61de45130ea9a3bb8a3"), looks := false }, kinds := [], alts := [], laidByText := true, laidKinds := [.data, .data, .data, .data], laidTests := true, laidLooks := .later }
def ImageImagesUptoCardSaid : Prop := Claim7.holds Tryz.pinned (.plain (OpenSpec.upto imageImagesSpec)) imageImagesUptoCard

/-- THE SECOND FORM's CARD OF 'moveoutlaw07.ImageAdjoint'. -/
def imageAdjointUptoCard : Claim7 := { stood := { row := imageAdjointUptoRow, standIns := [], harness := (true, "44b077007a873d30382693c9709a71980a7a4d8af60bb61de45130ea9a3bb8a3"), looks := false }, kinds := [], alts := [], laidByText := true, laidKinds := [.data, .data, .data, .data], laidTests := true, laidLooks := .later }
def ImageAdjointUptoCardSaid : Prop := Claim7.holds Tryz.pinned (.plain (OpenSpec.upto imageAdjointSpec)) imageAdjointUptoCard

/-- THE SECOND FORM's CARD OF 'moveoutlaw07.ImageTimes'. -/
def imageTimesUptoCard : Claim7 := { stood := { row := imageTimesUptoRow, standIns := [], harness := (true, "44b077007a873d30382693c9709a71980a7a4d8af60bb61de45130ea9a3bb8a3"), looks := false }, kinds := [], alts := [], laidByText := true, laidKinds := [.data, .data, .data, .data], laidTests := true, laidLooks := .later }
def ImageTimesUptoCardSaid : Prop := Claim7.holds Tryz.pinned (.plain (OpenSpec.upto imageTimesSpec)) imageTimesUptoCard

/-- THE SECOND FORM's CARD OF 'moveoutlaw07.ImageTurned'. -/
def imageTurnedUptoCard : Claim7 := { stood := { row := imageTurnedUptoRow, standIns := [], harness := (true, "44b077007a873d30382693c9709a71980a7a4d8af60bb61de45130ea9a3bb8a3"), looks := false }, kinds := [], alts := [], laidByText := true, laidKinds := [.data, .data, .data, .data], laidTests := true, laidLooks := .later }
def ImageTurnedUptoCardSaid : Prop := Claim7.holds Tryz.pinned (.plain (OpenSpec.upto imageTurnedSpec)) imageTurnedUptoCard

/-- THE SECOND FORM's CARD OF 'moveoutlaw07.ImageProofs'. -/
def imageProofsUptoCard : Claim7 := { stood := { row := imageProofsUptoRow, standIns := [], harness := (true, "44b077007a873d30382693c9709a71980a7a4d8af60bb61de45130ea9a3bb8a3"), looks := false }, kinds := [], alts := [], laidByText := true, laidKinds := [.data, .data, .data, .data], laidTests := true, laidLooks := .later }
def ImageProofsUptoCardSaid : Prop := Claim7.holds Tryz.pinned (.plain (OpenSpec.upto imageProofsSpec)) imageProofsUptoCard

/-- THE SECOND FORM's CARD OF 'moveoutlaw07.ImageRays'. -/
def imageRaysUptoCard : Claim7 := { stood := { row := imageRaysUptoRow, standIns := [], harness := (true, "44b077007a873d30382693c9709a71980a7a4d8af60bb61de45130ea9a3bb8a3"), looks := false }, kinds := [], alts := [], laidByText := true, laidKinds := [.data, .data, .data, .data], laidTests := true, laidLooks := .later }
def ImageRaysUptoCardSaid : Prop := Claim7.holds Tryz.pinned (.plain (OpenSpec.upto imageRaysSpec)) imageRaysUptoCard

/-- THE SECOND FORM's CARD OF 'moveoutlaw07.ImageTexts'. -/
def imageTextsUptoCard : Claim7 := { stood := { row := imageTextsUptoRow, standIns := [], harness := (true, "44b077007a873d30382693c9709a71980a7a4d8af60bb61de45130ea9a3bb8a3"), looks := false }, kinds := [], alts := [], laidByText := true, laidKinds := [.data, .data, .data, .data, .data, .pinned], laidTests := true, laidLooks := .later }
def ImageTextsUptoCardSaid : Prop := Claim7.holds Tryz.pinned (.plain (OpenSpec.upto imageTextsSpec)) imageTextsUptoCard

/-- THE SECOND FORM's CARD OF 'moveoutlaw07.ImageBack'. -/
def imageBackUptoCard : Claim7 := { stood := { row := imageBackUptoRow, standIns := [], harness := (true, "44b077007a873d30382693c9709a71980a7a4d8af60bb61de45130ea9a3bb8a3"), looks := false }, kinds := [], alts := [], laidByText := true, laidKinds := [.data, .data, .data, .data, .data, .pinned], laidTests := true, laidLooks := .later }
def ImageBackUptoCardSaid : Prop := Claim7.holds Tryz.pinned (.plain (OpenSpec.upto imageBackSpec)) imageBackUptoCard
end Rows
end Go.Proofs.YtdimmlljjmmdbaaGreatDoor
