/-
  DERIVED. GIVEN WITH THE SEED: THE CARDS: each row of YticoepbjpeepcaaDoorRows.lean that lists a variable, with what it lists TIED to the program's text (the seventh form; the later family's looks); each row that meets fmt, with fmt's text TOLD by the authors' own Lean function (tested against real Go, not proved from fmt's source: count such statements apart). THE CARD IS WHAT COUNTS. Prove the row's statement (the work); the ties are given (YticoepbjpeepcaaDoorTie.lean); close each card by the builder's one call (the guide's Derived/Test/ToyasCard.lean, 'card_holds'). Laid BY PROGRAM, IN A SANDBOX (cutbox-door.mjs). By AI agents, Wed Nov 11 2026. No macro, syntax, notation, axiom, sorry.
-/
import Derived.Test.YticoepbjpeepcaaDoorRows
import GoSem.ClaimSeven
namespace Go.Proofs.YticoepbjpeepcaaDoor
namespace Rows

/-- THE TIED CARD OF 'windrowlaw04.MaskOf'. -/
def maskOfCard : Claim7 := { stood := { row := maskOfRow, standIns := [], harness := (true, "0cf70c6b55322e62f2e03db2c0eb295daca59f05312780a4786ebb346e2f4f64"), looks := false }, kinds := [], alts := [], laidByText := true, laidKinds := [.data], laidTests := true, laidLooks := .later }
def MaskOfCardSaid : Prop := Claim7.holds Tryd.pinned (.plain (OpenSpec.ofChange maskOfSpec)) maskOfCard

/-- THE TIED CARD OF 'windrowlaw04.MaskNexts'. -/
def maskNextsCard : Claim7 := { stood := { row := maskNextsRow, standIns := [], harness := (true, "0cf70c6b55322e62f2e03db2c0eb295daca59f05312780a4786ebb346e2f4f64"), looks := false }, kinds := [], alts := [], laidByText := true, laidKinds := [.data], laidTests := true, laidLooks := .later }
def MaskNextsCardSaid : Prop := Claim7.holds Tryd.pinned (.plain (OpenSpec.ofChange maskNextsSpec)) maskNextsCard

/-- THE TIED CARD OF 'windrowlaw04.MaskRoom'. -/
def maskRoomCard : Claim7 := { stood := { row := maskRoomRow, standIns := [], harness := (true, "0cf70c6b55322e62f2e03db2c0eb295daca59f05312780a4786ebb346e2f4f64"), looks := false }, kinds := [], alts := [], laidByText := true, laidKinds := [.data], laidTests := true, laidLooks := .later }
def MaskRoomCardSaid : Prop := Claim7.holds Tryd.pinned (.plain (OpenSpec.ofChange maskRoomSpec)) maskRoomCard

/-- THE TIED CARD OF 'windrowlaw04.MaskJoins'. -/
def maskJoinsCard : Claim7 := { stood := { row := maskJoinsRow, standIns := [], harness := (true, "0cf70c6b55322e62f2e03db2c0eb295daca59f05312780a4786ebb346e2f4f64"), looks := false }, kinds := [], alts := [], laidByText := true, laidKinds := [.data], laidTests := true, laidLooks := .later }
def MaskJoinsCardSaid : Prop := Claim7.holds Tryd.pinned (.plain (OpenSpec.ofChange maskJoinsSpec)) maskJoinsCard

/-- THE TIED CARD OF 'windrowlaw04.MaskKeeps'. -/
def maskKeepsCard : Claim7 := { stood := { row := maskKeepsRow, standIns := [], harness := (true, "0cf70c6b55322e62f2e03db2c0eb295daca59f05312780a4786ebb346e2f4f64"), looks := false }, kinds := [], alts := [], laidByText := true, laidKinds := [.data], laidTests := true, laidLooks := .later }
def MaskKeepsCardSaid : Prop := Claim7.holds Tryd.pinned (.plain (OpenSpec.ofChange maskKeepsSpec)) maskKeepsCard

/-- THE TIED CARD OF 'windrowlaw04.MaskCovers'. -/
def maskCoversCard : Claim7 := { stood := { row := maskCoversRow, standIns := [], harness := (true, "0cf70c6b55322e62f2e03db2c0eb295daca59f05312780a4786ebb346e2f4f64"), looks := false }, kinds := [], alts := [], laidByText := true, laidKinds := [.data], laidTests := true, laidLooks := .later }
def MaskCoversCardSaid : Prop := Claim7.holds Tryd.pinned (.plain (OpenSpec.ofChange maskCoversSpec)) maskCoversCard

/-- THE TIED CARD OF 'windrowlaw04.MaskCounts'. -/
def maskCountsCard : Claim7 := { stood := { row := maskCountsRow, standIns := [], harness := (true, "0cf70c6b55322e62f2e03db2c0eb295daca59f05312780a4786ebb346e2f4f64"), looks := false }, kinds := [], alts := [], laidByText := true, laidKinds := [.data], laidTests := true, laidLooks := .later }
def MaskCountsCardSaid : Prop := Claim7.holds Tryd.pinned (.plain (OpenSpec.ofChange maskCountsSpec)) maskCountsCard

/-- THE TIED CARD OF 'windrowlaw04.MaskPlaces'. -/
def maskPlacesCard : Claim7 := { stood := { row := maskPlacesRow, standIns := [], harness := (true, "0cf70c6b55322e62f2e03db2c0eb295daca59f05312780a4786ebb346e2f4f64"), looks := false }, kinds := [], alts := [], laidByText := true, laidKinds := [.data], laidTests := true, laidLooks := .later }
def MaskPlacesCardSaid : Prop := Claim7.holds Tryd.pinned (.plain (OpenSpec.ofChange maskPlacesSpec)) maskPlacesCard

/-- THE TIED CARD OF 'windrowlaw04.MaskAdds'. -/
def maskAddsCard : Claim7 := { stood := { row := maskAddsRow, standIns := [], harness := (true, "0cf70c6b55322e62f2e03db2c0eb295daca59f05312780a4786ebb346e2f4f64"), looks := false }, kinds := [], alts := [], laidByText := true, laidKinds := [.data], laidTests := true, laidLooks := .later }
def MaskAddsCardSaid : Prop := Claim7.holds Tryd.pinned (.plain (OpenSpec.ofChange maskAddsSpec)) maskAddsCard

/-- THE SECOND FORM's CARD OF 'windrowlaw04.MaskOf'. -/
def maskOfUptoCard : Claim7 := { stood := { row := maskOfUptoRow, standIns := [], harness := (true, "0cf70c6b55322e62f2e03db2c0eb295daca59f05312780a4786ebb346e2f4f64"), looks := false }, kinds := [], alts := [], laidByText := true, laidKinds := [.data], laidTests := true, laidLooks := .later }
def MaskOfUptoCardSaid : Prop := Claim7.holds Tryd.pinned (.plain (OpenSpec.upto maskOfSpec)) maskOfUptoCard

/-- THE SECOND FORM's CARD OF 'windrowlaw04.MaskNexts'. -/
def maskNextsUptoCard : Claim7 := { stood := { row := maskNextsUptoRow, standIns := [], harness := (true, "0cf70c6b55322e62f2e03db2c0eb295daca59f05312780a4786ebb346e2f4f64"), looks := false }, kinds := [], alts := [], laidByText := true, laidKinds := [.data], laidTests := true, laidLooks := .later }
def MaskNextsUptoCardSaid : Prop := Claim7.holds Tryd.pinned (.plain (OpenSpec.upto maskNextsSpec)) maskNextsUptoCard

/-- THE SECOND FORM's CARD OF 'windrowlaw04.MaskRoom'. -/
def maskRoomUptoCard : Claim7 := { stood := { row := maskRoomUptoRow, standIns := [], harness := (true, "0cf70c6b55322e62f2e03db2c0eb295daca59f05312780a4786ebb346e2f4f64"), looks := false }, kinds := [], alts := [], laidByText := true, laidKinds := [.data], laidTests := true, laidLooks := .later }
def MaskRoomUptoCardSaid : Prop := Claim7.holds Tryd.pinned (.plain (OpenSpec.upto maskRoomSpec)) maskRoomUptoCard

/-- THE SECOND FORM's CARD OF 'windrowlaw04.MaskJoins'. -/
def maskJoinsUptoCard : Claim7 := { stood := { row := maskJoinsUptoRow, standIns := [], harness := (true, "0cf70c6b55322e62f2e03db2c0eb295daca59f05312780a4786ebb346e2f4f64"), looks := false }, kinds := [], alts := [], laidByText := true, laidKinds := [.data], laidTests := true, laidLooks := .later }
def MaskJoinsUptoCardSaid : Prop := Claim7.holds Tryd.pinned (.plain (OpenSpec.upto maskJoinsSpec)) maskJoinsUptoCard

/-- THE SECOND FORM's CARD OF 'windrowlaw04.MaskKeeps'. -/
def maskKeepsUptoCard : Claim7 := { stood := { row := maskKeepsUptoRow, standIns := [], harness := (true, "0cf70c6b55322e62f2e03db2c0eb295daca59f05312780a4786ebb346e2f4f64"), looks := false }, kinds := [], alts := [], laidByText := true, laidKinds := [.data], laidTests := true, laidLooks := .later }
def MaskKeepsUptoCardSaid : Prop := Claim7.holds Tryd.pinned (.plain (OpenSpec.upto maskKeepsSpec)) maskKeepsUptoCard

/-- THE SECOND FORM's CARD OF 'windrowlaw04.MaskCovers'. -/
def maskCoversUptoCard : Claim7 := { stood := { row := maskCoversUptoRow, standIns := [], harness := (true, "0cf70c6b55322e62f2e03db2c0eb295daca59f05312780a4786ebb346e2f4f64"), looks := false }, kinds := [], alts := [], laidByText := true, laidKinds := [.data], laidTests := true, laidLooks := .later }
def MaskCoversUptoCardSaid : Prop := Claim7.holds Tryd.pinned (.plain (OpenSpec.upto maskCoversSpec)) maskCoversUptoCard

/-- THE SECOND FORM's CARD OF 'windrowlaw04.MaskCounts'. -/
def maskCountsUptoCard : Claim7 := { stood := { row := maskCountsUptoRow, standIns := [], harness := (true, "0cf70c6b55322e62f2e03db2c0eb295daca59f05312780a4786ebb346e2f4f64"), looks := false }, kinds := [], alts := [], laidByText := true, laidKinds := [.data], laidTests := true, laidLooks := .later }
def MaskCountsUptoCardSaid : Prop := Claim7.holds Tryd.pinned (.plain (OpenSpec.upto maskCountsSpec)) maskCountsUptoCard

/-- THE SECOND FORM's CARD OF 'windrowlaw04.MaskPlaces'. -/
def maskPlacesUptoCard : Claim7 := { stood := { row := maskPlacesUptoRow, standIns := [], harness := (true, "0cf70c6b55322e62f2e03db2c0eb295daca59f05312780a4786ebb346e2f4f64"), looks := false }, kinds := [], alts := [], laidByText := true, laidKinds := [.data], laidTests := true, laidLooks := .later }
def MaskPlacesUptoCardSaid : Prop := Claim7.holds Tryd.pinned (.plain (OpenSpec.upto maskPlacesSpec)) maskPlacesUptoCard

/-- THE SECOND FORM's CARD OF 'windrowlaw04.MaskAdds'. -/
def maskAddsUptoCard : Claim7 := { stood := { row := maskAddsUptoRow, standIns := [], harness := (true, "0cf70c6b55322e62f2e03db2c0eb295daca59f05312780a4786ebb346e2f4f64"), looks := false }, kinds := [], alts := [], laidByText := true, laidKinds := [.data], laidTests := true, laidLooks := .later }
def MaskAddsUptoCardSaid : Prop := Claim7.holds Tryd.pinned (.plain (OpenSpec.upto maskAddsSpec)) maskAddsUptoCard
end Rows
end Go.Proofs.YticoepbjpeepcaaDoor
