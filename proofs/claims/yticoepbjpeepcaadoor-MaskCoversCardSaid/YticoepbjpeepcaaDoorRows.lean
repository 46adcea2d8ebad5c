/-
  NARROWER THAN 'FOR EVERY INPUT', by the rows' own cells (each row's printed sentence says how): MaskOf: laid · MaskNexts: laid · MaskRoom: laid · MaskJoins: laid · MaskKeeps: laid · MaskCovers: laid · MaskCounts: laid · MaskPlaces: laid · MaskAdds: laid.
  DERIVED. THE GIVEN ROWS OF THIS SEAT. 9 by the template 'for every input the law returns true; each argument reads behind the call as it read before'; 0 by the template 'total and deterministic' (their statements: YticoepbjpeepcaaDoorTotals.lean).
  GIVEN WITH THE SEED: the statements are not yours to turn. If you find one false, say at which input.
  Laid BY PROGRAM, IN A SANDBOX (cutbox-rows.mjs): the forced cells as the released guide's own fill.sh prints them over the translation 85d18ce6a68fc636… (all of the seat's roots in one cut). By AI agents, Wed Nov 11 2026. No macro, syntax, notation, axiom, sorry.
-/
import Derived.Test.YticoepbjpeepcaaDoorChecked
import GoSem.Claim
import GoSem.ClaimJoined
import GoSem.ClaimMapViews
import Derived.JoinedTies
import Derived.KernelRfl
namespace Go.Proofs.YticoepbjpeepcaaDoor
/- THE CELL 'sum', in the pinned program and in every row, IS THE sha256 OF THE DUMP (.gsa) THAT YticoepbjpeepcaaDoorProg.lean LOADS. Nothing in Lean hashes anything: it is a label: what it is worth is what the hold of that sum in a sandbox is worth. -/
noncomputable def Tryd.pinned : Pinned := { name := "yticoepbjpeepcaadoor", sum := "85d18ce6a68fc63606441a23c5f09b3258a361521bc90a081eb7c4053ce70141", checked := Tryd.checked }
namespace Rows
def none {H : Type} : Left H := { results := [], args := [] }

/- WHAT THE LISTED PACKAGE-LEVEL VARIABLES READ AS WHEN THE CALL BEGINS. Each datum BY PROGRAM (the guide's laid-datum.mjs) off the statement by which the dump's own 'gosem.cut.vars' lays the variable. In a bare row this is a premise. The card (YticoepbjpeepcaaDoorCards.lean) ties it to the program's text. -/
def laid_math_bits_deBruijn64tab {H : Type} : DataW H := .agg [.lit (.int .u8 0), .lit (.int .u8 1), .lit (.int .u8 56), .lit (.int .u8 2), .lit (.int .u8 57), .lit (.int .u8 49), .lit (.int .u8 28), .lit (.int .u8 3), .lit (.int .u8 61), .lit (.int .u8 58), .lit (.int .u8 42), .lit (.int .u8 50), .lit (.int .u8 38), .lit (.int .u8 29), .lit (.int .u8 17), .lit (.int .u8 4), .lit (.int .u8 62), .lit (.int .u8 47), .lit (.int .u8 59), .lit (.int .u8 36), .lit (.int .u8 45), .lit (.int .u8 43), .lit (.int .u8 51), .lit (.int .u8 22), .lit (.int .u8 53), .lit (.int .u8 39), .lit (.int .u8 33), .lit (.int .u8 30), .lit (.int .u8 24), .lit (.int .u8 18), .lit (.int .u8 12), .lit (.int .u8 5), .lit (.int .u8 63), .lit (.int .u8 55), .lit (.int .u8 48), .lit (.int .u8 27), .lit (.int .u8 60), .lit (.int .u8 41), .lit (.int .u8 37), .lit (.int .u8 16), .lit (.int .u8 46), .lit (.int .u8 35), .lit (.int .u8 44), .lit (.int .u8 21), .lit (.int .u8 52), .lit (.int .u8 32), .lit (.int .u8 23), .lit (.int .u8 11), .lit (.int .u8 54), .lit (.int .u8 26), .lit (.int .u8 40), .lit (.int .u8 15), .lit (.int .u8 34), .lit (.int .u8 20), .lit (.int .u8 31), .lit (.int .u8 10), .lit (.int .u8 25), .lit (.int .u8 14), .lit (.int .u8 19), .lit (.int .u8 9), .lit (.int .u8 13), .lit (.int .u8 8), .lit (.int .u8 7), .lit (.int .u8 6)]

/-- 'windrowlaw04.MaskOf': WHATEVER THE INPUT: true; the input reads as it did. -/
def maskOfSpec : ChangeSpec := { name := "maskOf", fn := fun _ => fun
  | [d] => { results := [.lit (.bool true)], args := [d] }
  | _ => none }
def maskOfRow : OpenClaim := { program := "yticoepbjpeepcaadoor", sum := "85d18ce6a68fc63606441a23c5f09b3258a361521bc90a081eb7c4053ce70141", func := "windrow/windrowlaw04.MaskOf", spec := "maskOf", named := ["math/bits.deBruijn64tab"], apart := false, laid := [("math/bits.deBruijn64tab", laid_math_bits_deBruijn64tab)] }
def MaskOfSaid : Prop := maskOfRow.holds Tryd.pinned (OpenSpec.ofChange maskOfSpec)

/-- ITS FALSE NEIGHBOUR: 'it returns false'. Refute it at one input. -/
def maskOfWrong : ChangeSpec := { name := "maskOf", fn := fun _ => fun
  | [d] => { results := [.lit (.bool false)], args := [d] }
  | _ => none }
def MaskOfWrongFalsely : Prop := maskOfRow.holds Tryd.pinned (OpenSpec.ofChange maskOfWrong)

/-- 'windrowlaw04.MaskNexts': WHATEVER THE INPUT: true; the input reads as it did. -/
def maskNextsSpec : ChangeSpec := { name := "maskNexts", fn := fun _ => fun
  | [d1, d2, d3] => { results := [.lit (.bool true)], args := [d1, d2, d3] }
  | _ => none }
def maskNextsRow : OpenClaim := { program := "yticoepbjpeepcaadoor", sum := "85d18ce6a68fc63606441a23c5f09b3258a361521bc90a081eb7c4053ce70141", func := "windrow/windrowlaw04.MaskNexts", spec := "maskNexts", named := ["math/bits.deBruijn64tab"], apart := false, laid := [("math/bits.deBruijn64tab", laid_math_bits_deBruijn64tab)] }
def MaskNextsSaid : Prop := maskNextsRow.holds Tryd.pinned (OpenSpec.ofChange maskNextsSpec)

/-- ITS FALSE NEIGHBOUR: 'it returns false'. Refute it at one input. -/
def maskNextsWrong : ChangeSpec := { name := "maskNexts", fn := fun _ => fun
  | [d1, d2, d3] => { results := [.lit (.bool false)], args := [d1, d2, d3] }
  | _ => none }
def MaskNextsWrongFalsely : Prop := maskNextsRow.holds Tryd.pinned (OpenSpec.ofChange maskNextsWrong)

/-- 'windrowlaw04.MaskRoom': WHATEVER THE INPUT: true; the input reads as it did. -/
def maskRoomSpec : ChangeSpec := { name := "maskRoom", fn := fun _ => fun
  | [d1, d2] => { results := [.lit (.bool true)], args := [d1, d2] }
  | _ => none }
def maskRoomRow : OpenClaim := { program := "yticoepbjpeepcaadoor", sum := "85d18ce6a68fc63606441a23c5f09b3258a361521bc90a081eb7c4053ce70141", func := "windrow/windrowlaw04.MaskRoom", spec := "maskRoom", named := ["math/bits.deBruijn64tab"], apart := false, laid := [("math/bits.deBruijn64tab", laid_math_bits_deBruijn64tab)] }
def MaskRoomSaid : Prop := maskRoomRow.holds Tryd.pinned (OpenSpec.ofChange maskRoomSpec)

/-- ITS FALSE NEIGHBOUR: 'it returns false'. Refute it at one input. -/
def maskRoomWrong : ChangeSpec := { name := "maskRoom", fn := fun _ => fun
  | [d1, d2] => { results := [.lit (.bool false)], args := [d1, d2] }
  | _ => none }
def MaskRoomWrongFalsely : Prop := maskRoomRow.holds Tryd.pinned (OpenSpec.ofChange maskRoomWrong)

/-- 'windrowlaw04.MaskJoins': WHATEVER THE INPUT: true; the input reads as it did. -/
def maskJoinsSpec : ChangeSpec := { name := "maskJoins", fn := fun _ => fun
  | [d1, d2] => { results := [.lit (.bool true)], args := [d1, d2] }
  | _ => none }
def maskJoinsRow : OpenClaim := { program := "yticoepbjpeepcaadoor", sum := "85d18ce6a68fc63606441a23c5f09b3258a361521bc90a081eb7c4053ce70141", func := "windrow/windrowlaw04.MaskJoins", spec := "maskJoins", unfollowed := true, recurses := true, named := ["math/bits.deBruijn64tab"], apart := false, laid := [("math/bits.deBruijn64tab", laid_math_bits_deBruijn64tab)] }
def MaskJoinsSaid : Prop := maskJoinsRow.holds Tryd.pinned (OpenSpec.ofChange maskJoinsSpec)

/-- ITS FALSE NEIGHBOUR: 'it returns false'. Refute it at one input. -/
def maskJoinsWrong : ChangeSpec := { name := "maskJoins", fn := fun _ => fun
  | [d1, d2] => { results := [.lit (.bool false)], args := [d1, d2] }
  | _ => none }
def MaskJoinsWrongFalsely : Prop := maskJoinsRow.holds Tryd.pinned (OpenSpec.ofChange maskJoinsWrong)

/-- 'windrowlaw04.MaskKeeps': WHATEVER THE INPUT: true; the input reads as it did. -/
def maskKeepsSpec : ChangeSpec := { name := "maskKeeps", fn := fun _ => fun
  | [d1, d2] => { results := [.lit (.bool true)], args := [d1, d2] }
  | _ => none }
def maskKeepsRow : OpenClaim := { program := "yticoepbjpeepcaadoor", sum := "85d18ce6a68fc63606441a23c5f09b3258a361521bc90a081eb7c4053ce70141", func := "windrow/windrowlaw04.MaskKeeps", spec := "maskKeeps", unfollowed := true, recurses := true, named := ["math/bits.deBruijn64tab"], apart := false, laid := [("math/bits.deBruijn64tab", laid_math_bits_deBruijn64tab)] }
def MaskKeepsSaid : Prop := maskKeepsRow.holds Tryd.pinned (OpenSpec.ofChange maskKeepsSpec)

/-- ITS FALSE NEIGHBOUR: 'it returns false'. Refute it at one input. -/
def maskKeepsWrong : ChangeSpec := { name := "maskKeeps", fn := fun _ => fun
  | [d1, d2] => { results := [.lit (.bool false)], args := [d1, d2] }
  | _ => none }
def MaskKeepsWrongFalsely : Prop := maskKeepsRow.holds Tryd.pinned (OpenSpec.ofChange maskKeepsWrong)

/-- 'windrowlaw04.MaskCovers': WHATEVER THE INPUT: true; the input reads as it did. -/
def maskCoversSpec : ChangeSpec := { name := "maskCovers", fn := fun _ => fun
  | [d] => { results := [.lit (.bool true)], args := [d] }
  | _ => none }
def maskCoversRow : OpenClaim := { program := "yticoepbjpeepcaadoor", sum := "85d18ce6a68fc63606441a23c5f09b3258a361521bc90a081eb7c4053ce70141", func := "windrow/windrowlaw04.MaskCovers", spec := "maskCovers", unfollowed := true, recurses := true, named := ["math/bits.deBruijn64tab"], apart := false, laid := [("math/bits.deBruijn64tab", laid_math_bits_deBruijn64tab)] }
def MaskCoversSaid : Prop := maskCoversRow.holds Tryd.pinned (OpenSpec.ofChange maskCoversSpec)

/-- ITS FALSE NEIGHBOUR: 'it returns false'. Refute it at one input. -/
def maskCoversWrong : ChangeSpec := { name := "maskCovers", fn := fun _ => fun
  | [d] => { results := [.lit (.bool false)], args := [d] }
  | _ => none }
def MaskCoversWrongFalsely : Prop := maskCoversRow.holds Tryd.pinned (OpenSpec.ofChange maskCoversWrong)

/-- 'windrowlaw04.MaskCounts': WHATEVER THE INPUT: true; the input reads as it did. -/
def maskCountsSpec : ChangeSpec := { name := "maskCounts", fn := fun _ => fun
  | [d1, d2] => { results := [.lit (.bool true)], args := [d1, d2] }
  | _ => none }
def maskCountsRow : OpenClaim := { program := "yticoepbjpeepcaadoor", sum := "85d18ce6a68fc63606441a23c5f09b3258a361521bc90a081eb7c4053ce70141", func := "windrow/windrowlaw04.MaskCounts", spec := "maskCounts", unfollowed := true, recurses := true, named := ["math/bits.deBruijn64tab"], apart := false, laid := [("math/bits.deBruijn64tab", laid_math_bits_deBruijn64tab)] }
def MaskCountsSaid : Prop := maskCountsRow.holds Tryd.pinned (OpenSpec.ofChange maskCountsSpec)

/-- ITS FALSE NEIGHBOUR: 'it returns false'. Refute it at one input. -/
def maskCountsWrong : ChangeSpec := { name := "maskCounts", fn := fun _ => fun
  | [d1, d2] => { results := [.lit (.bool false)], args := [d1, d2] }
  | _ => none }
def MaskCountsWrongFalsely : Prop := maskCountsRow.holds Tryd.pinned (OpenSpec.ofChange maskCountsWrong)

/-- 'windrowlaw04.MaskPlaces': WHATEVER THE INPUT: true; the input reads as it did. -/
def maskPlacesSpec : ChangeSpec := { name := "maskPlaces", fn := fun _ => fun
  | [d1, d2] => { results := [.lit (.bool true)], args := [d1, d2] }
  | _ => none }
def maskPlacesRow : OpenClaim := { program := "yticoepbjpeepcaadoor", sum := "85d18ce6a68fc63606441a23c5f09b3258a361521bc90a081eb7c4053ce70141", func := "windrow/windrowlaw04.MaskPlaces", spec := "maskPlaces", named := ["math/bits.deBruijn64tab"], apart := false, laid := [("math/bits.deBruijn64tab", laid_math_bits_deBruijn64tab)] }
def MaskPlacesSaid : Prop := maskPlacesRow.holds Tryd.pinned (OpenSpec.ofChange maskPlacesSpec)

/-- ITS FALSE NEIGHBOUR: 'it returns false'. Refute it at one input. -/
def maskPlacesWrong : ChangeSpec := { name := "maskPlaces", fn := fun _ => fun
  | [d1, d2] => { results := [.lit (.bool false)], args := [d1, d2] }
  | _ => none }
def MaskPlacesWrongFalsely : Prop := maskPlacesRow.holds Tryd.pinned (OpenSpec.ofChange maskPlacesWrong)

/-- 'windrowlaw04.MaskAdds': WHATEVER THE INPUT: true; the input reads as it did. -/
def maskAddsSpec : ChangeSpec := { name := "maskAdds", fn := fun _ => fun
  | [d1, d2] => { results := [.lit (.bool true)], args := [d1, d2] }
  | _ => none }
def maskAddsRow : OpenClaim := { program := "yticoepbjpeepcaadoor", sum := "85d18ce6a68fc63606441a23c5f09b3258a361521bc90a081eb7c4053ce70141", func := "windrow/windrowlaw04.MaskAdds", spec := "maskAdds", unfollowed := true, recurses := true, named := ["math/bits.deBruijn64tab"], apart := false, laid := [("math/bits.deBruijn64tab", laid_math_bits_deBruijn64tab)] }
def MaskAddsSaid : Prop := maskAddsRow.holds Tryd.pinned (OpenSpec.ofChange maskAddsSpec)

/-- ITS FALSE NEIGHBOUR: 'it returns false'. Refute it at one input. -/
def maskAddsWrong : ChangeSpec := { name := "maskAdds", fn := fun _ => fun
  | [d1, d2] => { results := [.lit (.bool false)], args := [d1, d2] }
  | _ => none }
def MaskAddsWrongFalsely : Prop := maskAddsRow.holds Tryd.pinned (OpenSpec.ofChange maskAddsWrong)

/- THE SECOND FORM. 'bulk': how many values and letters a reading holds, each counted each time it is reached (what is shared counts as often as it is met; a slice's spare places count too). A statement '..UptoSaid' is the law's where the arguments, and the package variables that the reading takes, are together of bulk at most 1048576: NARROWER than '..Said'. Prove '..Said' where nothing that the law and all that it calls make is longer than what came in: it says more and counts as full. Else prove '..UptoSaid'. A law counts once. -/
mutual
def uptoBulk {H : Type} : DataW H → Nat
  | .lit (.string bytes) => bytes.length + 1
  | .lit _ => 1
  | .nil => 1
  | .ptr d => uptoBulk d + 1
  | .slice elems spare => uptoBulkAll elems + uptoBulkAll spare + 1
  | .agg parts => uptoBulkAll parts + 1
  | .iface _ d => uptoBulk d + 1
  | .map entries => uptoBulkEntries entries + 1
  | .held _ => 1
def uptoBulkAll {H : Type} : List (DataW H) → Nat
  | [] => 0
  | d :: r => uptoBulk d + uptoBulkAll r
def uptoBulkEntries {H : Type} : List (Lit × DataW H) → Nat
  | [] => 0
  | x :: r => uptoBulkEntry x + uptoBulkEntries r
def uptoBulkEntry {H : Type} : Lit × DataW H → Nat
  | (.string bytes, d) => bytes.length + uptoBulk d + 1
  | (_, d) => uptoBulk d + 1
 end
def uptoSmall : (H : Type) → List (DataW H) → Bool := fun _ ds => decide (uptoBulkAll ds ≤ 1048576)
def OpenSpec.upto (s : _root_.Go.ChangeSpec) : _root_.Go.OpenSpec := { _root_.Go.OpenSpec.ofChange s with cond := some uptoSmall }

/-- 'windrowlaw04.MaskOf', WHERE WHAT IT READS IS OF BULK AT MOST 1048576: true; the input reads as it did. -/
def maskOfUptoRow : OpenClaim := { program := "yticoepbjpeepcaadoor", sum := "85d18ce6a68fc63606441a23c5f09b3258a361521bc90a081eb7c4053ce70141", func := "windrow/windrowlaw04.MaskOf", spec := "maskOf", named := ["math/bits.deBruijn64tab"], apart := false, laid := [("math/bits.deBruijn64tab", laid_math_bits_deBruijn64tab)], narrowed := true }
def MaskOfUptoSaid : Prop := maskOfUptoRow.holds Tryd.pinned (OpenSpec.upto maskOfSpec)

/-- 'windrowlaw04.MaskNexts', WHERE WHAT IT READS IS OF BULK AT MOST 1048576: true; the input reads as it did. -/
def maskNextsUptoRow : OpenClaim := { program := "yticoepbjpeepcaadoor", sum := "85d18ce6a68fc63606441a23c5f09b3258a361521bc90a081eb7c4053ce70141", func := "windrow/windrowlaw04.MaskNexts", spec := "maskNexts", named := ["math/bits.deBruijn64tab"], apart := false, laid := [("math/bits.deBruijn64tab", laid_math_bits_deBruijn64tab)], narrowed := true }
def MaskNextsUptoSaid : Prop := maskNextsUptoRow.holds Tryd.pinned (OpenSpec.upto maskNextsSpec)

/-- 'windrowlaw04.MaskRoom', WHERE WHAT IT READS IS OF BULK AT MOST 1048576: true; the input reads as it did. -/
def maskRoomUptoRow : OpenClaim := { program := "yticoepbjpeepcaadoor", sum := "85d18ce6a68fc63606441a23c5f09b3258a361521bc90a081eb7c4053ce70141", func := "windrow/windrowlaw04.MaskRoom", spec := "maskRoom", named := ["math/bits.deBruijn64tab"], apart := false, laid := [("math/bits.deBruijn64tab", laid_math_bits_deBruijn64tab)], narrowed := true }
def MaskRoomUptoSaid : Prop := maskRoomUptoRow.holds Tryd.pinned (OpenSpec.upto maskRoomSpec)

/-- 'windrowlaw04.MaskJoins', WHERE WHAT IT READS IS OF BULK AT MOST 1048576: true; the input reads as it did. -/
def maskJoinsUptoRow : OpenClaim := { program := "yticoepbjpeepcaadoor", sum := "85d18ce6a68fc63606441a23c5f09b3258a361521bc90a081eb7c4053ce70141", func := "windrow/windrowlaw04.MaskJoins", spec := "maskJoins", unfollowed := true, recurses := true, named := ["math/bits.deBruijn64tab"], apart := false, laid := [("math/bits.deBruijn64tab", laid_math_bits_deBruijn64tab)], narrowed := true }
def MaskJoinsUptoSaid : Prop := maskJoinsUptoRow.holds Tryd.pinned (OpenSpec.upto maskJoinsSpec)

/-- 'windrowlaw04.MaskKeeps', WHERE WHAT IT READS IS OF BULK AT MOST 1048576: true; the input reads as it did. -/
def maskKeepsUptoRow : OpenClaim := { program := "yticoepbjpeepcaadoor", sum := "85d18ce6a68fc63606441a23c5f09b3258a361521bc90a081eb7c4053ce70141", func := "windrow/windrowlaw04.MaskKeeps", spec := "maskKeeps", unfollowed := true, recurses := true, named := ["math/bits.deBruijn64tab"], apart := false, laid := [("math/bits.deBruijn64tab", laid_math_bits_deBruijn64tab)], narrowed := true }
def MaskKeepsUptoSaid : Prop := maskKeepsUptoRow.holds Tryd.pinned (OpenSpec.upto maskKeepsSpec)

/-- 'windrowlaw04.MaskCovers', WHERE WHAT IT READS IS OF BULK AT MOST 1048576: true; the input reads as it did. -/
def maskCoversUptoRow : OpenClaim := { program := "yticoepbjpeepcaadoor", sum := "85d18ce6a68fc63606441a23c5f09b3258a361521bc90a081eb7c4053ce70141", func := "windrow/windrowlaw04.MaskCovers", spec := "maskCovers", unfollowed := true, recurses := true, named := ["math/bits.deBruijn64tab"], apart := false, laid := [("math/bits.deBruijn64tab", laid_math_bits_deBruijn64tab)], narrowed := true }
def MaskCoversUptoSaid : Prop := maskCoversUptoRow.holds Tryd.pinned (OpenSpec.upto maskCoversSpec)

/-- 'windrowlaw04.MaskCounts', WHERE WHAT IT READS IS OF BULK AT MOST 1048576: true; the input reads as it did. -/
def maskCountsUptoRow : OpenClaim := { program := "yticoepbjpeepcaadoor", sum := "85d18ce6a68fc63606441a23c5f09b3258a361521bc90a081eb7c4053ce70141", func := "windrow/windrowlaw04.MaskCounts", spec := "maskCounts", unfollowed := true, recurses := true, named := ["math/bits.deBruijn64tab"], apart := false, laid := [("math/bits.deBruijn64tab", laid_math_bits_deBruijn64tab)], narrowed := true }
def MaskCountsUptoSaid : Prop := maskCountsUptoRow.holds Tryd.pinned (OpenSpec.upto maskCountsSpec)

/-- 'windrowlaw04.MaskPlaces', WHERE WHAT IT READS IS OF BULK AT MOST 1048576: true; the input reads as it did. -/
def maskPlacesUptoRow : OpenClaim := { program := "yticoepbjpeepcaadoor", sum := "85d18ce6a68fc63606441a23c5f09b3258a361521bc90a081eb7c4053ce70141", func := "windrow/windrowlaw04.MaskPlaces", spec := "maskPlaces", named := ["math/bits.deBruijn64tab"], apart := false, laid := [("math/bits.deBruijn64tab", laid_math_bits_deBruijn64tab)], narrowed := true }
def MaskPlacesUptoSaid : Prop := maskPlacesUptoRow.holds Tryd.pinned (OpenSpec.upto maskPlacesSpec)

/-- 'windrowlaw04.MaskAdds', WHERE WHAT IT READS IS OF BULK AT MOST 1048576: true; the input reads as it did. -/
def maskAddsUptoRow : OpenClaim := { program := "yticoepbjpeepcaadoor", sum := "85d18ce6a68fc63606441a23c5f09b3258a361521bc90a081eb7c4053ce70141", func := "windrow/windrowlaw04.MaskAdds", spec := "maskAdds", unfollowed := true, recurses := true, named := ["math/bits.deBruijn64tab"], apart := false, laid := [("math/bits.deBruijn64tab", laid_math_bits_deBruijn64tab)], narrowed := true }
def MaskAddsUptoSaid : Prop := maskAddsUptoRow.holds Tryd.pinned (OpenSpec.upto maskAddsSpec)

end Rows
end Go.Proofs.YticoepbjpeepcaaDoor
