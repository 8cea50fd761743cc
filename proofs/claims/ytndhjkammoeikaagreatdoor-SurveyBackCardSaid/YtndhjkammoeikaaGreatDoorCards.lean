/-
  DERIVED. GIVEN WITH THE SEED: THE CARDS: each row of YtndhjkammoeikaaGreatDoorRows.lean that lists a variable, with what it lists TIED to the program's text (the seventh form; the later family's looks); each row that meets fmt, with fmt's text TOLD by the authors' own Lean function (tested against real Go, not proved from fmt's source: count such statements apart). THE CARD IS WHAT COUNTS. Prove the row's statement (the work); the ties are given (YtndhjkammoeikaaGreatDoorTie.lean); close each card by the builder's one call (the guide's Derived/Test/ToyasCard.lean, 'card_holds'). Laid BY PROGRAM, IN A SANDBOX (cutbox-door.mjs). By AI agents, Wed Nov 11 2026. No macro, syntax, notation, axiom, sorry.
-/
import Derived.Test.YtndhjkammoeikaaGreatDoorRows
import GoSem.ClaimSeven
namespace Go.Proofs.YtndhjkammoeikaaGreatDoor
namespace Rows

/-- THE TIED CARD OF 'moveoutlaw09.SurveyWatches'. -/
def surveyWatchesCard : Claim7 := { stood := { row := surveyWatchesRow, standIns := [], harness := (true, "38876ad517132c138e5658753e4e18eb6717b8314190380fa3a6a6a4bde3f8f1"), looks := false }, kinds := [], alts := [], laidByText := true, laidKinds := [.data, .data, .data], laidTests := true, laidLooks := .later }
def SurveyWatchesCardSaid : Prop := Claim7.holds Tryz.pinned (.plain (OpenSpec.ofChange surveyWatchesSpec)) surveyWatchesCard

/-- THE TIED CARD OF 'moveoutlaw09.SurveyFires'. -/
def surveyFiresCard : Claim7 := { stood := { row := surveyFiresRow, standIns := [], harness := (true, "38876ad517132c138e5658753e4e18eb6717b8314190380fa3a6a6a4bde3f8f1"), looks := false }, kinds := [], alts := [], laidByText := true, laidKinds := [.data, .data, .data], laidTests := true, laidLooks := .later }
def SurveyFiresCardSaid : Prop := Claim7.holds Tryz.pinned (.plain (OpenSpec.ofChange surveyFiresSpec)) surveyFiresCard

/-- THE TIED CARD OF 'moveoutlaw09.SurveyDiaries'. -/
def surveyDiariesCard : Claim7 := { stood := { row := surveyDiariesRow, standIns := [], harness := (true, "38876ad517132c138e5658753e4e18eb6717b8314190380fa3a6a6a4bde3f8f1"), looks := false }, kinds := [], alts := [], laidByText := true, laidKinds := [.data, .data, .data], laidTests := true, laidLooks := .later }
def SurveyDiariesCardSaid : Prop := Claim7.holds Tryz.pinned (.plain (OpenSpec.ofChange surveyDiariesSpec)) surveyDiariesCard

/-- THE TIED CARD OF 'moveoutlaw09.SurveyDifferences'. -/
def surveyDifferencesCard : Claim7 := { stood := { row := surveyDifferencesRow, standIns := [], harness := (true, "38876ad517132c138e5658753e4e18eb6717b8314190380fa3a6a6a4bde3f8f1"), looks := false }, kinds := [], alts := [], laidByText := true, laidKinds := [.data, .data, .data], laidTests := true, laidLooks := .later }
def SurveyDifferencesCardSaid : Prop := Claim7.holds Tryz.pinned (.plain (OpenSpec.ofChange surveyDifferencesSpec)) surveyDifferencesCard

/-- THE TIED CARD OF 'moveoutlaw09.SurveyQuiet'. -/
def surveyQuietCard : Claim7 := { stood := { row := surveyQuietRow, standIns := [], harness := (true, "38876ad517132c138e5658753e4e18eb6717b8314190380fa3a6a6a4bde3f8f1"), looks := false }, kinds := [], alts := [], laidByText := true, laidKinds := [.data, .data, .data], laidTests := true, laidLooks := .later }
def SurveyQuietCardSaid : Prop := Claim7.holds Tryz.pinned (.plain (OpenSpec.ofChange surveyQuietSpec)) surveyQuietCard

/-- THE TIED CARD OF 'moveoutlaw09.SurveyMore'. -/
def surveyMoreCard : Claim7 := { stood := { row := surveyMoreRow, standIns := [], harness := (true, "38876ad517132c138e5658753e4e18eb6717b8314190380fa3a6a6a4bde3f8f1"), looks := false }, kinds := [], alts := [], laidByText := true, laidKinds := [.data, .data, .data], laidTests := true, laidLooks := .later }
def SurveyMoreCardSaid : Prop := Claim7.holds Tryz.pinned (.plain (OpenSpec.ofChange surveyMoreSpec)) surveyMoreCard

/-- THE TIED CARD OF 'moveoutlaw09.SurveyHours'. -/
def surveyHoursCard : Claim7 := { stood := { row := surveyHoursRow, standIns := [], harness := (true, "38876ad517132c138e5658753e4e18eb6717b8314190380fa3a6a6a4bde3f8f1"), looks := false }, kinds := [], alts := [], laidByText := true, laidKinds := [.data, .data, .data], laidTests := true, laidLooks := .later }
def SurveyHoursCardSaid : Prop := Claim7.holds Tryz.pinned (.plain (OpenSpec.ofChange surveyHoursSpec)) surveyHoursCard

/-- THE TIED CARD OF 'moveoutlaw09.SurveyMoney'. -/
def surveyMoneyCard : Claim7 := { stood := { row := surveyMoneyRow, standIns := [], harness := (true, "38876ad517132c138e5658753e4e18eb6717b8314190380fa3a6a6a4bde3f8f1"), looks := false }, kinds := [], alts := [], laidByText := true, laidKinds := [.data, .data, .data], laidTests := true, laidLooks := .later }
def SurveyMoneyCardSaid : Prop := Claim7.holds Tryz.pinned (.plain (OpenSpec.ofChange surveyMoneySpec)) surveyMoneyCard

/-- THE TIED CARD OF 'moveoutlaw09.SurveyBills'. -/
def surveyBillsCard : Claim7 := { stood := { row := surveyBillsRow, standIns := [], harness := (true, "38876ad517132c138e5658753e4e18eb6717b8314190380fa3a6a6a4bde3f8f1"), looks := false }, kinds := [], alts := [], laidByText := true, laidKinds := [.data, .data, .data], laidTests := true, laidLooks := .later }
def SurveyBillsCardSaid : Prop := Claim7.holds Tryz.pinned (.plain (OpenSpec.ofChange surveyBillsSpec)) surveyBillsCard

/-- THE TIED CARD OF 'moveoutlaw09.SurveyTexts'. -/
def surveyTextsCard : Claim7 := { stood := { row := surveyTextsRow, standIns := [], harness := (true, "38876ad517132c138e5658753e4e18eb6717b8314190380fa3a6a6a4bde3f8f1"), looks := false }, kinds := [], alts := [], laidByText := true, laidKinds := [.data, .data, .data, .data, .pinned], laidTests := true, laidLooks := .later }
def SurveyTextsCardSaid : Prop := Claim7.holds Tryz.pinned (.plain (OpenSpec.ofChange surveyTextsSpec)) surveyTextsCard

/-- THE TIED CARD OF 'moveoutlaw09.SurveyBack'. -/
def surveyBackCard : Claim7 := { stood := { row := surveyBackRow, standIns := [], harness := (true, "38876ad517132c138e5658753e4e18eb6717b8314190380fa3a6a6a4bde3f8f1"), looks := false }, kinds := [], alts := [], laidByText := true, laidKinds := [.data, .data, .data, .data, .pinned], laidTests := true, laidLooks := .later }
def SurveyBackCardSaid : Prop := Claim7.holds Tryz.pinned (.plain (OpenSpec.ofChange surveyBackSpec)) surveyBackCard

/-- THE SECOND FORM's CARD OF 'moveoutlaw09.SurveyWatches'. -/
def surveyWatchesUptoCard : Claim7 := { stood := { row := surveyWatchesUptoRow, standIns := [], harness := (true, "38876ad517132c138e5658753e4e18eb6717b8314190380fa3a6a6a4bde3f8f1"), looks := false }, kinds := [], alts := [], laidByText := true, laidKinds := [.data, .data, .data], laidTests := true, laidLooks := .later }
def SurveyWatchesUptoCardSaid : Prop := Claim7.holds Tryz.pinned (.plain (OpenSpec.upto surveyWatchesSpec)) surveyWatchesUptoCard

/-- THE SECOND FORM's CARD OF 'moveoutlaw09.SurveyFires'. -/
def surveyFiresUptoCard : Claim7 := { stood := { row := surveyFiresUptoRow, standIns := [], harness := (true, "38876ad517132c138e5658753e4e18eb6717b8314190380fa3a6a6a4bde3f8f1"), looks := false }, kinds := [], alts := [], laidByText := true, laidKinds := [.data, .data, .data], laidTests := true, laidLooks := .later }
def SurveyFiresUptoCardSaid : Prop := Claim7.holds Tryz.pinned (.plain (OpenSpec.upto surveyFiresSpec)) surveyFiresUptoCard

/-- THE SECOND FORM's CARD OF 'moveoutlaw09.SurveyDiaries'. -/
def surveyDiariesUptoCard : Claim7 := { stood := { row := surveyDiariesUptoRow, standIns := [], harness := (true, "38876ad517132c138e5658753e4e18eb6717b8314190380fa3a6a6a4bde3f8f1"), looks := false }, kinds := [], alts := [], laidByText := true, laidKinds := [.data, .data, .data], laidTests := true, laidLooks := .later }
def SurveyDiariesUptoCardSaid : Prop := Claim7.holds Tryz.pinned (.plain (OpenSpec.upto surveyDiariesSpec)) surveyDiariesUptoCard

/-- THE SECOND FORM's CARD OF 'moveoutlaw09.SurveyDifferences'. -/
def surveyDifferencesUptoCard : Claim7 := { stood := { row := surveyDifferencesUptoRow, standIns := [], harness := (true, "38876ad517132c138e5658753e4e18eb6717b8314190380fa3a6a6a4bde3f8f1"), looks := false }, kinds := [], alts := [], laidByText := true, laidKinds := [.data, .data, .data], laidTests := true, laidLooks := .later }
def SurveyDifferencesUptoCardSaid : Prop := Claim7.holds Tryz.pinned (.plain (OpenSpec.upto surveyDifferencesSpec)) surveyDifferencesUptoCard

/-- THE SECOND FORM's CARD OF 'moveoutlaw09.SurveyQuiet'. -/
def surveyQuietUptoCard : Claim7 := { stood := { row := surveyQuietUptoRow, standIns := [], harness := (true, "38876ad517132c138e5658753e4e18eb6717b8314190380fa3a6a6a4bde3f8f1"), looks := false }, kinds := [], alts := [], laidByText := true, laidKinds := [.data, .data, .data], laidTests := true, laidLooks := .later }
def SurveyQuietUptoCardSaid : Prop := Claim7.holds Tryz.pinned (.plain (OpenSpec.upto surveyQuietSpec)) surveyQuietUptoCard

/-- THE SECOND FORM's CARD OF 'moveoutlaw09.SurveyMore'. -/
def surveyMoreUptoCard : Claim7 := { stood := { row := surveyMoreUptoRow, standIns := [], harness := (true, "38876ad517132c138e5658753e4e18eb6717b8314190380fa3a6a6a4bde3f8f1"), looks := false }, kinds := [], alts := [], laidByText := true, laidKinds := [.data, .data, .data], laidTests := true, laidLooks := .later }
def SurveyMoreUptoCardSaid : Prop := Claim7.holds Tryz.pinned (.plain (OpenSpec.upto surveyMoreSpec)) surveyMoreUptoCard

/-- THE SECOND FORM's CARD OF 'moveoutlaw09.SurveyHours'. -/
def surveyHoursUptoCard : Claim7 := { stood := { row := surveyHoursUptoRow, standIns := [], harness := (true, "38876ad517132c138e5658753e4e18eb6717b8314190380fa3a6a6a4bde3f8f1"), looks := false }, kinds := [], alts := [], laidByText := true, laidKinds := [.data, .data, .data], laidTests := true, laidLooks := .later }
def SurveyHoursUptoCardSaid : Prop := Claim7.holds Tryz.pinned (.plain (OpenSpec.upto surveyHoursSpec)) surveyHoursUptoCard

/-- THE SECOND FORM's CARD OF 'moveoutlaw09.SurveyMoney'. -/
def surveyMoneyUptoCard : Claim7 := { stood := { row := surveyMoneyUptoRow, standIns := [], harness := (true, "38876ad517132c138e5658753e4e18eb6717b8314190380fa3a6a6a4bde3f8f1"), looks := false }, kinds := [], alts := [], laidByText := true, laidKinds := [.data, .data, .data], laidTests := true, laidLooks := .later }
def SurveyMoneyUptoCardSaid : Prop := Claim7.holds Tryz.pinned (.plain (OpenSpec.upto surveyMoneySpec)) surveyMoneyUptoCard

/-- THE SECOND FORM's CARD OF 'moveoutlaw09.SurveyBills'. -/
def surveyBillsUptoCard : Claim7 := { stood := { row := surveyBillsUptoRow, standIns := [], harness := (true, "38876ad517132c138e5658753e4e18eb6717b8314190380fa3a6a6a4bde3f8f1"), looks := false }, kinds := [], alts := [], laidByText := true, laidKinds := [.data, .data, .data], laidTests := true, laidLooks := .later }
def SurveyBillsUptoCardSaid : Prop := Claim7.holds Tryz.pinned (.plain (OpenSpec.upto surveyBillsSpec)) surveyBillsUptoCard

/-- THE SECOND FORM's CARD OF 'moveoutlaw09.SurveyTexts'. -/
def surveyTextsUptoCard : Claim7 := { stood := { row := surveyTextsUptoRow, standIns := [], harness := (true, "38876ad517132c138e5658753e4e18eb6717b8314190380fa3a6a6a4bde3f8f1"), looks := false }, kinds := [], alts := [], laidByText := true, laidKinds := [.data, .data, .data, .data, .pinned], laidTests := true, laidLooks := .later }
def SurveyTextsUptoCardSaid : Prop := Claim7.holds Tryz.pinned (.plain (OpenSpec.upto surveyTextsSpec)) surveyTextsUptoCard

/-- THE SECOND FORM's CARD OF 'moveoutlaw09.SurveyBack'. -/
def surveyBackUptoCard : Claim7 := { stood := { row := surveyBackUptoRow, standIns := [], harness := (true, "38876ad517132c138e5658753e4e18eb6717b8314190380fa3a6a6a4bde3f8f1"), looks := false }, kinds := [], alts := [], laidByText := true, laidKinds := [.data, .data, .data, .data, .pinned], laidTests := true, laidLooks := .later }
def SurveyBackUptoCardSaid : Prop := Claim7.holds Tryz.pinned (.plain (OpenSpec.upto surveyBackSpec)) surveyBackUptoCard
end Rows
end Go.Proofs.YtndhjkammoeikaaGreatDoor
