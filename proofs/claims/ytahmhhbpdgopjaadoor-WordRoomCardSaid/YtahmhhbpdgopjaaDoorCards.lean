/-
  DERIVED. GIVEN WITH THE SEED: THE CARDS: each row of YtahmhhbpdgopjaaDoorRows.lean that lists a variable, with what it lists TIED to the program's text (the seventh form; the later family's looks); each row that meets fmt, with fmt's text TOLD by the authors' own Lean function (tested against real Go, not proved from fmt's source: count such statements apart). THE CARD IS WHAT COUNTS. Prove the row's statement (the work); the ties are given (YtahmhhbpdgopjaaDoorTie.lean); close each card by the builder's one call (the guide's Derived/Test/ToyasCard.lean, 'card_holds'). Laid BY PROGRAM, IN A SANDBOX (cutbox-door.mjs). By AI agents, Wed Nov 11 2026. No macro, syntax, notation, axiom, sorry.
-/
import Derived.Test.YtahmhhbpdgopjaaDoorRows
import GoSem.ClaimSeven
namespace Go.Proofs.YtahmhhbpdgopjaaDoor
namespace Rows

/-- THE TIED CARD OF 'windrowlaw01.WordGaps'. -/
def wordGapsCard : Claim7 := { stood := { row := wordGapsRow, standIns := [], harness := (true, "0d69b7ccd5990cc15520cb2af3e4f10f4d1b29b0292d625965aa2e689f2e4fa8"), looks := false }, kinds := [], alts := [], laidByText := true, laidKinds := [.data], laidTests := true, laidLooks := .later }
def WordGapsCardSaid : Prop := Claim7.holds Tryd.pinned (.plain (OpenSpec.ofChange wordGapsSpec)) wordGapsCard

/-- THE TIED CARD OF 'windrowlaw01.WordKept'. -/
def wordKeptCard : Claim7 := { stood := { row := wordKeptRow, standIns := [], harness := (true, "0d69b7ccd5990cc15520cb2af3e4f10f4d1b29b0292d625965aa2e689f2e4fa8"), looks := false }, kinds := [], alts := [], laidByText := true, laidKinds := [.data], laidTests := true, laidLooks := .later }
def WordKeptCardSaid : Prop := Claim7.holds Tryd.pinned (.plain (OpenSpec.ofChange wordKeptSpec)) wordKeptCard

/-- THE TIED CARD OF 'windrowlaw01.WordHoles'. -/
def wordHolesCard : Claim7 := { stood := { row := wordHolesRow, standIns := [], harness := (true, "0d69b7ccd5990cc15520cb2af3e4f10f4d1b29b0292d625965aa2e689f2e4fa8"), looks := false }, kinds := [], alts := [], laidByText := true, laidKinds := [.data], laidTests := true, laidLooks := .later }
def WordHolesCardSaid : Prop := Claim7.holds Tryd.pinned (.plain (OpenSpec.ofChange wordHolesSpec)) wordHolesCard

/-- THE TIED CARD OF 'windrowlaw01.WordFields'. -/
def wordFieldsCard : Claim7 := { stood := { row := wordFieldsRow, standIns := [], harness := (true, "0d69b7ccd5990cc15520cb2af3e4f10f4d1b29b0292d625965aa2e689f2e4fa8"), looks := false }, kinds := [], alts := [], laidByText := true, laidKinds := [.data], laidTests := true, laidLooks := .later }
def WordFieldsCardSaid : Prop := Claim7.holds Tryd.pinned (.plain (OpenSpec.ofChange wordFieldsSpec)) wordFieldsCard

/-- THE TIED CARD OF 'windrowlaw01.WordTurns'. -/
def wordTurnsCard : Claim7 := { stood := { row := wordTurnsRow, standIns := [], harness := (true, "0d69b7ccd5990cc15520cb2af3e4f10f4d1b29b0292d625965aa2e689f2e4fa8"), looks := false }, kinds := [], alts := [], laidByText := true, laidKinds := [.data], laidTests := true, laidLooks := .later }
def WordTurnsCardSaid : Prop := Claim7.holds Tryd.pinned (.plain (OpenSpec.ofChange wordTurnsSpec)) wordTurnsCard

/-- THE TIED CARD OF 'windrowlaw01.WordRoom'. -/
def wordRoomCard : Claim7 := { stood := { row := wordRoomRow, standIns := [], harness := (true, "0d69b7ccd5990cc15520cb2af3e4f10f4d1b29b0292d625965aa2e689f2e4fa8"), looks := false }, kinds := [], alts := [], laidByText := true, laidKinds := [.data], laidTests := true, laidLooks := .later }
def WordRoomCardSaid : Prop := Claim7.holds Tryd.pinned (.plain (OpenSpec.ofChange wordRoomSpec)) wordRoomCard

/-- THE TIED CARD OF 'windrowlaw01.WordPacks'. -/
def wordPacksCard : Claim7 := { stood := { row := wordPacksRow, standIns := [], harness := (true, "0d69b7ccd5990cc15520cb2af3e4f10f4d1b29b0292d625965aa2e689f2e4fa8"), looks := false }, kinds := [], alts := [], laidByText := true, laidKinds := [.data], laidTests := true, laidLooks := .later }
def WordPacksCardSaid : Prop := Claim7.holds Tryd.pinned (.plain (OpenSpec.ofChange wordPacksSpec)) wordPacksCard

/-- THE TIED CARD OF 'windrowlaw01.WordWheels'. -/
def wordWheelsCard : Claim7 := { stood := { row := wordWheelsRow, standIns := [], harness := (true, "0d69b7ccd5990cc15520cb2af3e4f10f4d1b29b0292d625965aa2e689f2e4fa8"), looks := false }, kinds := [], alts := [], laidByText := true, laidKinds := [.data], laidTests := true, laidLooks := .later }
def WordWheelsCardSaid : Prop := Claim7.holds Tryd.pinned (.plain (OpenSpec.ofChange wordWheelsSpec)) wordWheelsCard

/-- THE TIED CARD OF 'windrowlaw01.WordSelects'. -/
def wordSelectsCard : Claim7 := { stood := { row := wordSelectsRow, standIns := [], harness := (true, "0d69b7ccd5990cc15520cb2af3e4f10f4d1b29b0292d625965aa2e689f2e4fa8"), looks := false }, kinds := [], alts := [], laidByText := true, laidKinds := [.data], laidTests := true, laidLooks := .later }
def WordSelectsCardSaid : Prop := Claim7.holds Tryd.pinned (.plain (OpenSpec.ofChange wordSelectsSpec)) wordSelectsCard

/-- THE TIED CARD OF 'windrowlaw01.WordUndoes'. -/
def wordUndoesCard : Claim7 := { stood := { row := wordUndoesRow, standIns := [], harness := (true, "0d69b7ccd5990cc15520cb2af3e4f10f4d1b29b0292d625965aa2e689f2e4fa8"), looks := false }, kinds := [], alts := [], laidByText := true, laidKinds := [.data], laidTests := true, laidLooks := .later }
def WordUndoesCardSaid : Prop := Claim7.holds Tryd.pinned (.plain (OpenSpec.ofChange wordUndoesSpec)) wordUndoesCard

/-- THE TIED CARD OF 'windrowlaw01.WordCounts'. -/
def wordCountsCard : Claim7 := { stood := { row := wordCountsRow, standIns := [], harness := (true, "0d69b7ccd5990cc15520cb2af3e4f10f4d1b29b0292d625965aa2e689f2e4fa8"), looks := false }, kinds := [], alts := [], laidByText := true, laidKinds := [.data], laidTests := true, laidLooks := .later }
def WordCountsCardSaid : Prop := Claim7.holds Tryd.pinned (.plain (OpenSpec.ofChange wordCountsSpec)) wordCountsCard

/-- THE SECOND FORM's CARD OF 'windrowlaw01.WordGaps'. -/
def wordGapsUptoCard : Claim7 := { stood := { row := wordGapsUptoRow, standIns := [], harness := (true, "0d69b7ccd5990cc15520cb2af3e4f10f4d1b29b0292d625965aa2e689f2e4fa8"), looks := false }, kinds := [], alts := [], laidByText := true, laidKinds := [.data], laidTests := true, laidLooks := .later }
def WordGapsUptoCardSaid : Prop := Claim7.holds Tryd.pinned (.plain (OpenSpec.upto wordGapsSpec)) wordGapsUptoCard

/-- THE SECOND FORM's CARD OF 'windrowlaw01.WordKept'. -/
def wordKeptUptoCard : Claim7 := { stood := { row := wordKeptUptoRow, standIns := [], harness := (true, "0d69b7ccd5990cc15520cb2af3e4f10f4d1b29b0292d625965aa2e689f2e4fa8"), looks := false }, kinds := [], alts := [], laidByText := true, laidKinds := [.data], laidTests := true, laidLooks := .later }
def WordKeptUptoCardSaid : Prop := Claim7.holds Tryd.pinned (.plain (OpenSpec.upto wordKeptSpec)) wordKeptUptoCard

/-- THE SECOND FORM's CARD OF 'windrowlaw01.WordHoles'. -/
def wordHolesUptoCard : Claim7 := { stood := { row := wordHolesUptoRow, standIns := [], harness := (true, "0d69b7ccd5990cc15520cb2af3e4f10f4d1b29b0292d625965aa2e689f2e4fa8"), looks := false }, kinds := [], alts := [], laidByText := true, laidKinds := [.data], laidTests := true, laidLooks := .later }
def WordHolesUptoCardSaid : Prop := Claim7.holds Tryd.pinned (.plain (OpenSpec.upto wordHolesSpec)) wordHolesUptoCard

/-- THE SECOND FORM's CARD OF 'windrowlaw01.WordFields'. -/
def wordFieldsUptoCard : Claim7 := { stood := { row := wordFieldsUptoRow, standIns := [], harness := (true, "0d69b7ccd5990cc15520cb2af3e4f10f4d1b29b0292d625965aa2e689f2e4fa8"), looks := false }, kinds := [], alts := [], laidByText := true, laidKinds := [.data], laidTests := true, laidLooks := .later }
def WordFieldsUptoCardSaid : Prop := Claim7.holds Tryd.pinned (.plain (OpenSpec.upto wordFieldsSpec)) wordFieldsUptoCard

/-- THE SECOND FORM's CARD OF 'windrowlaw01.WordTurns'. -/
def wordTurnsUptoCard : Claim7 := { stood := { row := wordTurnsUptoRow, standIns := [], harness := (true, "0d69b7ccd5990cc15520cb2af3e4f10f4d1b29b0292d625965aa2e689f2e4fa8"), looks := false }, kinds := [], alts := [], laidByText := true, laidKinds := [.data], laidTests := true, laidLooks := .later }
def WordTurnsUptoCardSaid : Prop := Claim7.holds Tryd.pinned (.plain (OpenSpec.upto wordTurnsSpec)) wordTurnsUptoCard

/-- THE SECOND FORM's CARD OF 'windrowlaw01.WordRoom'. -/
def wordRoomUptoCard : Claim7 := { stood := { row := wordRoomUptoRow, standIns := [], harness := (true, "0d69b7ccd5990cc15520cb2af3e4f10f4d1b29b0292d625965aa2e689f2e4fa8"), looks := false }, kinds := [], alts := [], laidByText := true, laidKinds := [.data], laidTests := true, laidLooks := .later }
def WordRoomUptoCardSaid : Prop := Claim7.holds Tryd.pinned (.plain (OpenSpec.upto wordRoomSpec)) wordRoomUptoCard

/-- THE SECOND FORM's CARD OF 'windrowlaw01.WordPacks'. -/
def wordPacksUptoCard : Claim7 := { stood := { row := wordPacksUptoRow, standIns := [], harness := (true, "0d69b7ccd5990cc15520cb2af3e4f10f4d1b29b0292d625965aa2e689f2e4fa8"), looks := false }, kinds := [], alts := [], laidByText := true, laidKinds := [.data], laidTests := true, laidLooks := .later }
def WordPacksUptoCardSaid : Prop := Claim7.holds Tryd.pinned (.plain (OpenSpec.upto wordPacksSpec)) wordPacksUptoCard

/-- THE SECOND FORM's CARD OF 'windrowlaw01.WordWheels'. -/
def wordWheelsUptoCard : Claim7 := { stood := { row := wordWheelsUptoRow, standIns := [], harness := (true, "0d69b7ccd5990cc15520cb2af3e4f10f4d1b29b0292d625965aa2e689f2e4fa8"), looks := false }, kinds := [], alts := [], laidByText := true, laidKinds := [.data], laidTests := true, laidLooks := .later }
def WordWheelsUptoCardSaid : Prop := Claim7.holds Tryd.pinned (.plain (OpenSpec.upto wordWheelsSpec)) wordWheelsUptoCard

/-- THE SECOND FORM's CARD OF 'windrowlaw01.WordSelects'. -/
def wordSelectsUptoCard : Claim7 := { stood := { row := wordSelectsUptoRow, standIns := [], harness := (true, "0d69b7ccd5990cc15520cb2af3e4f10f4d1b29b0292d625965aa2e689f2e4fa8"), looks := false }, kinds := [], alts := [], laidByText := true, laidKinds := [.data], laidTests := true, laidLooks := .later }
def WordSelectsUptoCardSaid : Prop := Claim7.holds Tryd.pinned (.plain (OpenSpec.upto wordSelectsSpec)) wordSelectsUptoCard

/-- THE SECOND FORM's CARD OF 'windrowlaw01.WordUndoes'. -/
def wordUndoesUptoCard : Claim7 := { stood := { row := wordUndoesUptoRow, standIns := [], harness := (true, "0d69b7ccd5990cc15520cb2af3e4f10f4d1b29b0292d625965aa2e689f2e4fa8"), looks := false }, kinds := [], alts := [], laidByText := true, laidKinds := [.data], laidTests := true, laidLooks := .later }
def WordUndoesUptoCardSaid : Prop := Claim7.holds Tryd.pinned (.plain (OpenSpec.upto wordUndoesSpec)) wordUndoesUptoCard

/-- THE SECOND FORM's CARD OF 'windrowlaw01.WordCounts'. -/
def wordCountsUptoCard : Claim7 := { stood := { row := wordCountsUptoRow, standIns := [], harness := (true, "0d69b7ccd5990cc15520cb2af3e4f10f4d1b29b0292d625965aa2e689f2e4fa8"), looks := false }, kinds := [], alts := [], laidByText := true, laidKinds := [.data], laidTests := true, laidLooks := .later }
def WordCountsUptoCardSaid : Prop := Claim7.holds Tryd.pinned (.plain (OpenSpec.upto wordCountsSpec)) wordCountsUptoCard
end Rows
end Go.Proofs.YtahmhhbpdgopjaaDoor
