/-
  DERIVED. GIVEN WITH THE SEED: THE CARDS: each row of YtfmgibhffgkieaaDoorRows.lean that lists a variable, with what it lists TIED to the program's text (the seventh form; the later family's looks); each row that meets fmt, with fmt's text TOLD by the authors' own Lean function (tested against real Go, not proved from fmt's source: count such statements apart). THE CARD IS WHAT COUNTS. Prove the row's statement (the work); the ties are given (YtfmgibhffgkieaaDoorTie.lean); close each card by the builder's one call (the guide's Derived/Test/ToyasCard.lean, 'card_holds'). Laid BY PROGRAM, IN A SANDBOX (cutbox-door.mjs). By AI agents, Wed Nov 11 2026. No macro, syntax, notation, axiom, sorry.
-/
import Derived.Test.YtfmgibhffgkieaaDoorRows
import GoSem.ClaimSeven
namespace Go.Proofs.YtfmgibhffgkieaaDoor
namespace Rows

/-- THE TIED CARD OF 'moveouttop.TopKeelChanged'. -/
def topKeelChangedCard : Claim7 := { stood := { row := topKeelChangedRow, standIns := [], harness := (true, "4342d6487158f70b8202f466f20a42145fa7200a3e9538860864fcfd2d50c2d2"), looks := false }, kinds := [], alts := [], laidByText := true, laidKinds := [.data], laidTests := true, laidLooks := .later }
def TopKeelChangedCardSaid : Prop := Claim7.holds Tryd.pinned (.plain (OpenSpec.ofChange topKeelChangedSpec)) topKeelChangedCard

/-- THE SECOND FORM's CARD OF 'moveouttop.TopKeelChanged'. -/
def topKeelChangedUptoCard : Claim7 := { stood := { row := topKeelChangedUptoRow, standIns := [], harness := (true, "4342d6487158f70b8202f466f20a42145fa7200a3e9538860864fcfd2d50c2d2"), looks := false }, kinds := [], alts := [], laidByText := true, laidKinds := [.data], laidTests := true, laidLooks := .later }
def TopKeelChangedUptoCardSaid : Prop := Claim7.holds Tryd.pinned (.plain (OpenSpec.upto topKeelChangedSpec)) topKeelChangedUptoCard
end Rows
end Go.Proofs.YtfmgibhffgkieaaDoor
