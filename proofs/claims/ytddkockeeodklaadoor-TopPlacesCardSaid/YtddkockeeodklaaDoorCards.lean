/-
  DERIVED. GIVEN WITH THE SEED: THE CARDS: each row of YtddkockeeodklaaDoorRows.lean that lists a variable, with what it lists TIED to the program's text (the seventh form; the later family's looks); each row that meets fmt, with fmt's text TOLD by the authors' own Lean function (tested against real Go, not proved from fmt's source: count such statements apart). THE CARD IS WHAT COUNTS. Prove the row's statement (the work); the ties are given (YtddkockeeodklaaDoorTie.lean); close each card by the builder's one call (the guide's Derived/Test/ToyasCard.lean, 'card_holds'). Laid BY PROGRAM, IN A SANDBOX (cutbox-door.mjs). By AI agents, Wed Nov 11 2026. No macro, syntax, notation, axiom, sorry.
-/
import Derived.Test.YtddkockeeodklaaDoorRows
import GoSem.ClaimSeven
namespace Go.Proofs.YtddkockeeodklaaDoor
namespace Rows

/-- THE TIED CARD OF 'windrowtop.TopBits'. -/
def topBitsCard : Claim7 := { stood := { row := topBitsRow, standIns := [], harness := (true, "7372fdcdbc74baef7146e6155d5a4a230d3cdeee7f43ae18a437197c6196ec5e"), looks := false }, kinds := [], alts := [], laidByText := true, laidKinds := [.data], laidTests := true, laidLooks := .later }
def TopBitsCardSaid : Prop := Claim7.holds Tryd.pinned (.plain (OpenSpec.ofChange topBitsSpec)) topBitsCard

/-- THE TIED CARD OF 'windrowtop.TopPlaces'. -/
def topPlacesCard : Claim7 := { stood := { row := topPlacesRow, standIns := [], harness := (true, "7372fdcdbc74baef7146e6155d5a4a230d3cdeee7f43ae18a437197c6196ec5e"), looks := false }, kinds := [], alts := [], laidByText := true, laidKinds := [.data, .data], laidTests := true, laidLooks := .later }
def TopPlacesCardSaid : Prop := Claim7.holds Tryd.pinned (.plain (OpenSpec.ofChange topPlacesSpec)) topPlacesCard

/-- THE SECOND FORM's CARD OF 'windrowtop.TopBits'. -/
def topBitsUptoCard : Claim7 := { stood := { row := topBitsUptoRow, standIns := [], harness := (true, "7372fdcdbc74baef7146e6155d5a4a230d3cdeee7f43ae18a437197c6196ec5e"), looks := false }, kinds := [], alts := [], laidByText := true, laidKinds := [.data], laidTests := true, laidLooks := .later }
def TopBitsUptoCardSaid : Prop := Claim7.holds Tryd.pinned (.plain (OpenSpec.upto topBitsSpec)) topBitsUptoCard

/-- THE SECOND FORM's CARD OF 'windrowtop.TopPlaces'. -/
def topPlacesUptoCard : Claim7 := { stood := { row := topPlacesUptoRow, standIns := [], harness := (true, "7372fdcdbc74baef7146e6155d5a4a230d3cdeee7f43ae18a437197c6196ec5e"), looks := false }, kinds := [], alts := [], laidByText := true, laidKinds := [.data, .data], laidTests := true, laidLooks := .later }
def TopPlacesUptoCardSaid : Prop := Claim7.holds Tryd.pinned (.plain (OpenSpec.upto topPlacesSpec)) topPlacesUptoCard
end Rows
end Go.Proofs.YtddkockeeodklaaDoor
