/-
  DERIVED. GIVEN WITH THE SEED: THE CARDS: each row of YtdimmlljjmmdbaaDoorRows.lean that lists a variable, with what it lists TIED to the program's text (the seventh form; the later family's looks); each row that meets fmt, with fmt's text TOLD by the authors' own Lean function (tested against real Go, not proved from fmt's source: count such statements apart). THE CARD IS WHAT COUNTS. Prove the row's statement (the work); the ties are given (YtdimmlljjmmdbaaDoorTie.lean); close each card by the builder's one call (the guide's Derived/Test/ToyasCard.lean, 'card_holds'). Laid BY PROGRAM, IN A SANDBOX (cutbox-door.mjs). By AI agents, Wed Nov 11 2026. No macro, syntax, notation, axiom, sorry.
-/
import Derived.Test.YtdimmlljjmmdbaaDoorRows
import GoSem.ClaimSeven
namespace Go.Proofs.YtdimmlljjmmdbaaDoor
namespace Rows

/-- THE TIED CARD OF 'moveouttop.TopSprayRays'. -/
def topSprayRaysCard : Claim7 := { stood := { row := topSprayRaysRow, standIns := [], harness := (true, "51ff9954a4f21e4d473c2146df82244144e2d26a09c21a3c4c2340738a13f023"), looks := false }, kinds := [], alts := [], laidByText := true, laidKinds := [.data], laidTests := true, laidLooks := .later }
def TopSprayRaysCardSaid : Prop := Claim7.holds Tryd.pinned (.plain (OpenSpec.ofChange topSprayRaysSpec)) topSprayRaysCard

/-- THE TIED CARD OF 'moveouttop.TopSprayUnits'. -/
def topSprayUnitsCard : Claim7 := { stood := { row := topSprayUnitsRow, standIns := [], harness := (true, "51ff9954a4f21e4d473c2146df82244144e2d26a09c21a3c4c2340738a13f023"), looks := false }, kinds := [], alts := [], laidByText := true, laidKinds := [.data], laidTests := true, laidLooks := .later }
def TopSprayUnitsCardSaid : Prop := Claim7.holds Tryd.pinned (.plain (OpenSpec.ofChange topSprayUnitsSpec)) topSprayUnitsCard

/-- THE SECOND FORM's CARD OF 'moveouttop.TopSprayRays'. -/
def topSprayRaysUptoCard : Claim7 := { stood := { row := topSprayRaysUptoRow, standIns := [], harness := (true, "51ff9954a4f21e4d473c2146df82244144e2d26a09c21a3c4c2340738a13f023"), looks := false }, kinds := [], alts := [], laidByText := true, laidKinds := [.data], laidTests := true, laidLooks := .later }
def TopSprayRaysUptoCardSaid : Prop := Claim7.holds Tryd.pinned (.plain (OpenSpec.upto topSprayRaysSpec)) topSprayRaysUptoCard

/-- THE SECOND FORM's CARD OF 'moveouttop.TopSprayUnits'. -/
def topSprayUnitsUptoCard : Claim7 := { stood := { row := topSprayUnitsUptoRow, standIns := [], harness := (true, "51ff9954a4f21e4d473c2146df82244144e2d26a09c21a3c4c2340738a13f023"), looks := false }, kinds := [], alts := [], laidByText := true, laidKinds := [.data], laidTests := true, laidLooks := .later }
def TopSprayUnitsUptoCardSaid : Prop := Claim7.holds Tryd.pinned (.plain (OpenSpec.upto topSprayUnitsSpec)) topSprayUnitsUptoCard
end Rows
end Go.Proofs.YtdimmlljjmmdbaaDoor
