/-
  DERIVED. GIVEN WITH THE SEED: THE CARDS: each row of YtjakjaohgndebaaDoorRows.lean that lists a variable, with what it lists TIED to the program's text (the seventh form; the later family's looks); each row that meets fmt, with fmt's text TOLD by the authors' own Lean function (tested against real Go, not proved from fmt's source: count such statements apart). THE CARD IS WHAT COUNTS. Prove the row's statement (the work); the ties are given (YtjakjaohgndebaaDoorTie.lean); close each card by the builder's one call (the guide's Derived/Test/ToyasCard.lean, 'card_holds'). Laid BY PROGRAM, IN A SANDBOX (cutbox-door.mjs). By AI agents, Wed Nov 11 2026. No macro, syntax, notation, axiom, sorry.
-/
import Derived.Test.YtjakjaohgndebaaDoorRows
import GoSem.ClaimSeven
namespace Go.Proofs.YtjakjaohgndebaaDoor
namespace Rows

/-- THE TIED CARD OF 'windrowlaw05.SizesTables'. -/
def sizesTablesCard : Claim7 := { stood := { row := sizesTablesRow, standIns := [], harness := (true, "fdc0882743c6cc1ef2038ad8867be996637fd00d8b012e143d61d83600dbb46a"), looks := false }, kinds := [], alts := [], laidByText := true, laidKinds := [.data, .data], laidTests := true, laidLooks := .later }
def SizesTablesCardSaid : Prop := Claim7.holds Tryd.pinned (.plain (OpenSpec.ofChange sizesTablesSpec)) sizesTablesCard

/-- THE TIED CARD OF 'windrowlaw05.SizesLeast'. -/
def sizesLeastCard : Claim7 := { stood := { row := sizesLeastRow, standIns := [], harness := (true, "fdc0882743c6cc1ef2038ad8867be996637fd00d8b012e143d61d83600dbb46a"), looks := false }, kinds := [], alts := [], laidByText := true, laidKinds := [.data, .data], laidTests := true, laidLooks := .later }
def SizesLeastCardSaid : Prop := Claim7.holds Tryd.pinned (.plain (OpenSpec.ofChange sizesLeastSpec)) sizesLeastCard

/-- THE TIED CARD OF 'windrowlaw05.SizesCovers'. -/
def sizesCoversCard : Claim7 := { stood := { row := sizesCoversRow, standIns := [], harness := (true, "fdc0882743c6cc1ef2038ad8867be996637fd00d8b012e143d61d83600dbb46a"), looks := false }, kinds := [], alts := [], laidByText := true, laidKinds := [.data, .data], laidTests := true, laidLooks := .later }
def SizesCoversCardSaid : Prop := Claim7.holds Tryd.pinned (.plain (OpenSpec.ofChange sizesCoversSpec)) sizesCoversCard

/-- THE TIED CARD OF 'windrowlaw05.SizesChooses'. -/
def sizesChoosesCard : Claim7 := { stood := { row := sizesChoosesRow, standIns := [], harness := (true, "fdc0882743c6cc1ef2038ad8867be996637fd00d8b012e143d61d83600dbb46a"), looks := false }, kinds := [], alts := [], laidByText := true, laidKinds := [.data, .data], laidTests := true, laidLooks := .later }
def SizesChoosesCardSaid : Prop := Claim7.holds Tryd.pinned (.plain (OpenSpec.ofChange sizesChoosesSpec)) sizesChoosesCard

/-- THE TIED CARD OF 'windrowlaw05.SizesRounds'. -/
def sizesRoundsCard : Claim7 := { stood := { row := sizesRoundsRow, standIns := [], harness := (true, "fdc0882743c6cc1ef2038ad8867be996637fd00d8b012e143d61d83600dbb46a"), looks := false }, kinds := [], alts := [], laidByText := true, laidKinds := [.data, .data], laidTests := true, laidLooks := .later }
def SizesRoundsCardSaid : Prop := Claim7.holds Tryd.pinned (.plain (OpenSpec.ofChange sizesRoundsSpec)) sizesRoundsCard

/-- THE TIED CARD OF 'windrowlaw05.SizesFull'. -/
def sizesFullCard : Claim7 := { stood := { row := sizesFullRow, standIns := [], harness := (true, "fdc0882743c6cc1ef2038ad8867be996637fd00d8b012e143d61d83600dbb46a"), looks := false }, kinds := [], alts := [], laidByText := true, laidKinds := [.data, .data], laidTests := true, laidLooks := .later }
def SizesFullCardSaid : Prop := Claim7.holds Tryd.pinned (.plain (OpenSpec.ofChange sizesFullSpec)) sizesFullCard

/-- THE TIED CARD OF 'windrowlaw05.SizesCells'. -/
def sizesCellsCard : Claim7 := { stood := { row := sizesCellsRow, standIns := [], harness := (true, "fdc0882743c6cc1ef2038ad8867be996637fd00d8b012e143d61d83600dbb46a"), looks := false }, kinds := [], alts := [], laidByText := true, laidKinds := [.data, .data], laidTests := true, laidLooks := .later }
def SizesCellsCardSaid : Prop := Claim7.holds Tryd.pinned (.plain (OpenSpec.ofChange sizesCellsSpec)) sizesCellsCard

/-- THE SECOND FORM's CARD OF 'windrowlaw05.SizesTables'. -/
def sizesTablesUptoCard : Claim7 := { stood := { row := sizesTablesUptoRow, standIns := [], harness := (true, "fdc0882743c6cc1ef2038ad8867be996637fd00d8b012e143d61d83600dbb46a"), looks := false }, kinds := [], alts := [], laidByText := true, laidKinds := [.data, .data], laidTests := true, laidLooks := .later }
def SizesTablesUptoCardSaid : Prop := Claim7.holds Tryd.pinned (.plain (OpenSpec.upto sizesTablesSpec)) sizesTablesUptoCard

/-- THE SECOND FORM's CARD OF 'windrowlaw05.SizesLeast'. -/
def sizesLeastUptoCard : Claim7 := { stood := { row := sizesLeastUptoRow, standIns := [], harness := (true, "fdc0882743c6cc1ef2038ad8867be996637fd00d8b012e143d61d83600dbb46a"), looks := false }, kinds := [], alts := [], laidByText := true, laidKinds := [.data, .data], laidTests := true, laidLooks := .later }
def SizesLeastUptoCardSaid : Prop := Claim7.holds Tryd.pinned (.plain (OpenSpec.upto sizesLeastSpec)) sizesLeastUptoCard

/-- THE SECOND FORM's CARD OF 'windrowlaw05.SizesCovers'. -/
def sizesCoversUptoCard : Claim7 := { stood := { row := sizesCoversUptoRow, standIns := [], harness := (true, "fdc0882743c6cc1ef2038ad8867be996637fd00d8b012e143d61d83600dbb46a"), looks := false }, kinds := [], alts := [], laidByText := true, laidKinds := [.data, .data], laidTests := true, laidLooks := .later }
def SizesCoversUptoCardSaid : Prop := Claim7.holds Tryd.pinned (.plain (OpenSpec.upto sizesCoversSpec)) sizesCoversUptoCard

/-- THE SECOND FORM's CARD OF 'windrowlaw05.SizesChooses'. -/
def sizesChoosesUptoCard : Claim7 := { stood := { row := sizesChoosesUptoRow, standIns := [], harness := (true, "fdc0882743c6cc1ef2038ad8867be996637fd00d8b012e143d61d83600dbb46a"), looks := false }, kinds := [], alts := [], laidByText := true, laidKinds := [.data, .data], laidTests := true, laidLooks := .later }
def SizesChoosesUptoCardSaid : Prop := Claim7.holds Tryd.pinned (.plain (OpenSpec.upto sizesChoosesSpec)) sizesChoosesUptoCard

/-- THE SECOND FORM's CARD OF 'windrowlaw05.SizesRounds'. -/
def sizesRoundsUptoCard : Claim7 := { stood := { row := sizesRoundsUptoRow, standIns := [], harness := (true, "fdc0882743c6cc1ef2038ad8867be996637fd00d8b012e143d61d83600dbb46a"), looks := false }, kinds := [], alts := [], laidByText := true, laidKinds := [.data, .data], laidTests := true, laidLooks := .later }
def SizesRoundsUptoCardSaid : Prop := Claim7.holds Tryd.pinned (.plain (OpenSpec.upto sizesRoundsSpec)) sizesRoundsUptoCard

/-- THE SECOND FORM's CARD OF 'windrowlaw05.SizesFull'. -/
def sizesFullUptoCard : Claim7 := { stood := { row := sizesFullUptoRow, standIns := [], harness := (true, "fdc0882743c6cc1ef2038ad8867be996637fd00d8b012e143d61d83600dbb46a"), looks := false }, kinds := [], alts := [], laidByText := true, laidKinds := [.data, .data], laidTests := true, laidLooks := .later }
def SizesFullUptoCardSaid : Prop := Claim7.holds Tryd.pinned (.plain (OpenSpec.upto sizesFullSpec)) sizesFullUptoCard

/-- THE SECOND FORM's CARD OF 'windrowlaw05.SizesCells'. -/
def sizesCellsUptoCard : Claim7 := { stood := { row := sizesCellsUptoRow, standIns := [], harness := (true, "fdc0882743c6cc1ef2038ad8867be996637fd00d8b012e143d61d83600dbb46a"), looks := false }, kinds := [], alts := [], laidByText := true, laidKinds := [.data, .data], laidTests := true, laidLooks := .later }
def SizesCellsUptoCardSaid : Prop := Claim7.holds Tryd.pinned (.plain (OpenSpec.upto sizesCellsSpec)) sizesCellsUptoCard
end Rows
end Go.Proofs.YtjakjaohgndebaaDoor
