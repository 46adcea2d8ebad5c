/-
  NARROWER THAN 'FOR EVERY INPUT', by the rows' own cells (each row's printed sentence says how): WordGaps: laid · WordKept: laid · WordHoles: laid · WordFields: laid · WordTurns: laid · WordRoom: laid · WordPacks: laid · WordWheels: laid · WordSelects: laid · WordUndoes: laid · WordCounts: laid.
  DERIVED. THE GIVEN ROWS OF THIS SEAT. 11 by the template 'for every input the law returns true; each argument reads behind the call as it read before'; 0 by the template 'total and deterministic' (their statements: YtahmhhbpdgopjaaDoorTotals.lean).
  GIVEN WITH THE SEED: the statements are not yours to turn. If you find one false, say at which input.
  Laid BY PROGRAM, IN A SANDBOX (cutbox-rows.mjs): the forced cells as the released guide's own fill.sh prints them over the translation 0133ea309acdf776… (all of the seat's roots in one cut). By AI agents, Wed Nov 11 2026. No macro, syntax, notation, axiom, sorry.
-/
import Derived.Test.YtahmhhbpdgopjaaDoorChecked
import GoSem.Claim
import GoSem.ClaimJoined
import GoSem.ClaimMapViews
import Derived.JoinedTies
import Derived.KernelRfl
namespace Go.Proofs.YtahmhhbpdgopjaaDoor
/- THE CELL 'sum', in the pinned program and in every row, IS THE sha256 OF THE DUMP (.gsa) THAT YtahmhhbpdgopjaaDoorProg.lean LOADS. Nothing in Lean hashes anything: it is a label: what it is worth is what the hold of that sum in a sandbox is worth. -/
noncomputable def Tryd.pinned : Pinned := { name := "ytahmhhbpdgopjaadoor", sum := "0133ea309acdf7762d336e91dcf8572c6fce33acad7927929b4c2384e9bdafdd", checked := Tryd.checked }
namespace Rows
def none {H : Type} : Left H := { results := [], args := [] }

/- WHAT THE LISTED PACKAGE-LEVEL VARIABLES READ AS WHEN THE CALL BEGINS. Each datum BY PROGRAM (the guide's laid-datum.mjs) off the statement by which the dump's own 'gosem.cut.vars' lays the variable. In a bare row this is a premise. The card (YtahmhhbpdgopjaaDoorCards.lean) ties it to the program's text. -/
def laid_math_bits_deBruijn64tab {H : Type} : DataW H := .agg [.lit (.int .u8 0), .lit (.int .u8 1), .lit (.int .u8 56), .lit (.int .u8 2), .lit (.int .u8 57), .lit (.int .u8 49), .lit (.int .u8 28), .lit (.int .u8 3), .lit (.int .u8 61), .lit (.int .u8 58), .lit (.int .u8 42), .lit (.int .u8 50), .lit (.int .u8 38), .lit (.int .u8 29), .lit (.int .u8 17), .lit (.int .u8 4), .lit (.int .u8 62), .lit (.int .u8 47), .lit (.int .u8 59), .lit (.int .u8 36), .lit (.int .u8 45), .lit (.int .u8 43), .lit (.int .u8 51), .lit (.int .u8 22), .lit (.int .u8 53), .lit (.int .u8 39), .lit (.int .u8 33), .lit (.int .u8 30), .lit (.int .u8 24), .lit (.int .u8 18), .lit (.int .u8 12), .lit (.int .u8 5), .lit (.int .u8 63), .lit (.int .u8 55), .lit (.int .u8 48), .lit (.int .u8 27), .lit (.int .u8 60), .lit (.int .u8 41), .lit (.int .u8 37), .lit (.int .u8 16), .lit (.int .u8 46), .lit (.int .u8 35), .lit (.int .u8 44), .lit (.int .u8 21), .lit (.int .u8 52), .lit (.int .u8 32), .lit (.int .u8 23), .lit (.int .u8 11), .lit (.int .u8 54), .lit (.int .u8 26), .lit (.int .u8 40), .lit (.int .u8 15), .lit (.int .u8 34), .lit (.int .u8 20), .lit (.int .u8 31), .lit (.int .u8 10), .lit (.int .u8 25), .lit (.int .u8 14), .lit (.int .u8 19), .lit (.int .u8 9), .lit (.int .u8 13), .lit (.int .u8 8), .lit (.int .u8 7), .lit (.int .u8 6)]

/-- 'windrowlaw01.WordGaps': WHATEVER THE INPUT: true; the input reads as it did. -/
def wordGapsSpec : ChangeSpec := { name := "wordGaps", fn := fun _ => fun
  | [d1, d2] => { results := [.lit (.bool true)], args := [d1, d2] }
  | _ => none }
def wordGapsRow : OpenClaim := { program := "ytahmhhbpdgopjaadoor", sum := "0133ea309acdf7762d336e91dcf8572c6fce33acad7927929b4c2384e9bdafdd", func := "windrow/windrowlaw01.WordGaps", spec := "wordGaps", named := ["math/bits.deBruijn64tab"], apart := false, laid := [("math/bits.deBruijn64tab", laid_math_bits_deBruijn64tab)] }
def WordGapsSaid : Prop := wordGapsRow.holds Tryd.pinned (OpenSpec.ofChange wordGapsSpec)

/-- ITS FALSE NEIGHBOUR: 'it returns false'. Refute it at one input. -/
def wordGapsWrong : ChangeSpec := { name := "wordGaps", fn := fun _ => fun
  | [d1, d2] => { results := [.lit (.bool false)], args := [d1, d2] }
  | _ => none }
def WordGapsWrongFalsely : Prop := wordGapsRow.holds Tryd.pinned (OpenSpec.ofChange wordGapsWrong)

/-- 'windrowlaw01.WordKept': WHATEVER THE INPUT: true; the input reads as it did. -/
def wordKeptSpec : ChangeSpec := { name := "wordKept", fn := fun _ => fun
  | [d] => { results := [.lit (.bool true)], args := [d] }
  | _ => none }
def wordKeptRow : OpenClaim := { program := "ytahmhhbpdgopjaadoor", sum := "0133ea309acdf7762d336e91dcf8572c6fce33acad7927929b4c2384e9bdafdd", func := "windrow/windrowlaw01.WordKept", spec := "wordKept", named := ["math/bits.deBruijn64tab"], apart := false, laid := [("math/bits.deBruijn64tab", laid_math_bits_deBruijn64tab)] }
def WordKeptSaid : Prop := wordKeptRow.holds Tryd.pinned (OpenSpec.ofChange wordKeptSpec)

/-- ITS FALSE NEIGHBOUR: 'it returns false'. Refute it at one input. -/
def wordKeptWrong : ChangeSpec := { name := "wordKept", fn := fun _ => fun
  | [d] => { results := [.lit (.bool false)], args := [d] }
  | _ => none }
def WordKeptWrongFalsely : Prop := wordKeptRow.holds Tryd.pinned (OpenSpec.ofChange wordKeptWrong)

/-- 'windrowlaw01.WordHoles': WHATEVER THE INPUT: true; the input reads as it did. -/
def wordHolesSpec : ChangeSpec := { name := "wordHoles", fn := fun _ => fun
  | [d1, d2] => { results := [.lit (.bool true)], args := [d1, d2] }
  | _ => none }
def wordHolesRow : OpenClaim := { program := "ytahmhhbpdgopjaadoor", sum := "0133ea309acdf7762d336e91dcf8572c6fce33acad7927929b4c2384e9bdafdd", func := "windrow/windrowlaw01.WordHoles", spec := "wordHoles", named := ["math/bits.deBruijn64tab"], apart := false, laid := [("math/bits.deBruijn64tab", laid_math_bits_deBruijn64tab)] }
def WordHolesSaid : Prop := wordHolesRow.holds Tryd.pinned (OpenSpec.ofChange wordHolesSpec)

/-- ITS FALSE NEIGHBOUR: 'it returns false'. Refute it at one input. -/
def wordHolesWrong : ChangeSpec := { name := "wordHoles", fn := fun _ => fun
  | [d1, d2] => { results := [.lit (.bool false)], args := [d1, d2] }
  | _ => none }
def WordHolesWrongFalsely : Prop := wordHolesRow.holds Tryd.pinned (OpenSpec.ofChange wordHolesWrong)

/-- 'windrowlaw01.WordFields': WHATEVER THE INPUT: true; the input reads as it did. -/
def wordFieldsSpec : ChangeSpec := { name := "wordFields", fn := fun _ => fun
  | [d] => { results := [.lit (.bool true)], args := [d] }
  | _ => none }
def wordFieldsRow : OpenClaim := { program := "ytahmhhbpdgopjaadoor", sum := "0133ea309acdf7762d336e91dcf8572c6fce33acad7927929b4c2384e9bdafdd", func := "windrow/windrowlaw01.WordFields", spec := "wordFields", named := ["math/bits.deBruijn64tab"], apart := false, laid := [("math/bits.deBruijn64tab", laid_math_bits_deBruijn64tab)] }
def WordFieldsSaid : Prop := wordFieldsRow.holds Tryd.pinned (OpenSpec.ofChange wordFieldsSpec)

/-- ITS FALSE NEIGHBOUR: 'it returns false'. Refute it at one input. -/
def wordFieldsWrong : ChangeSpec := { name := "wordFields", fn := fun _ => fun
  | [d] => { results := [.lit (.bool false)], args := [d] }
  | _ => none }
def WordFieldsWrongFalsely : Prop := wordFieldsRow.holds Tryd.pinned (OpenSpec.ofChange wordFieldsWrong)

/-- 'windrowlaw01.WordTurns': WHATEVER THE INPUT: true; the input reads as it did. -/
def wordTurnsSpec : ChangeSpec := { name := "wordTurns", fn := fun _ => fun
  | [d1, d2] => { results := [.lit (.bool true)], args := [d1, d2] }
  | _ => none }
def wordTurnsRow : OpenClaim := { program := "ytahmhhbpdgopjaadoor", sum := "0133ea309acdf7762d336e91dcf8572c6fce33acad7927929b4c2384e9bdafdd", func := "windrow/windrowlaw01.WordTurns", spec := "wordTurns", named := ["math/bits.deBruijn64tab"], apart := false, laid := [("math/bits.deBruijn64tab", laid_math_bits_deBruijn64tab)] }
def WordTurnsSaid : Prop := wordTurnsRow.holds Tryd.pinned (OpenSpec.ofChange wordTurnsSpec)

/-- ITS FALSE NEIGHBOUR: 'it returns false'. Refute it at one input. -/
def wordTurnsWrong : ChangeSpec := { name := "wordTurns", fn := fun _ => fun
  | [d1, d2] => { results := [.lit (.bool false)], args := [d1, d2] }
  | _ => none }
def WordTurnsWrongFalsely : Prop := wordTurnsRow.holds Tryd.pinned (OpenSpec.ofChange wordTurnsWrong)

/-- 'windrowlaw01.WordRoom': WHATEVER THE INPUT: true; the input reads as it did. -/
def wordRoomSpec : ChangeSpec := { name := "wordRoom", fn := fun _ => fun
  | [d1, d2] => { results := [.lit (.bool true)], args := [d1, d2] }
  | _ => none }
def wordRoomRow : OpenClaim := { program := "ytahmhhbpdgopjaadoor", sum := "0133ea309acdf7762d336e91dcf8572c6fce33acad7927929b4c2384e9bdafdd", func := "windrow/windrowlaw01.WordRoom", spec := "wordRoom", named := ["math/bits.deBruijn64tab"], apart := false, laid := [("math/bits.deBruijn64tab", laid_math_bits_deBruijn64tab)] }
def WordRoomSaid : Prop := wordRoomRow.holds Tryd.pinned (OpenSpec.ofChange wordRoomSpec)

/-- ITS FALSE NEIGHBOUR: 'it returns false'. Refute it at one input. -/
def wordRoomWrong : ChangeSpec := { name := "wordRoom", fn := fun _ => fun
  | [d1, d2] => { results := [.lit (.bool false)], args := [d1, d2] }
  | _ => none }
def WordRoomWrongFalsely : Prop := wordRoomRow.holds Tryd.pinned (OpenSpec.ofChange wordRoomWrong)

/-- 'windrowlaw01.WordPacks': WHATEVER THE INPUT: true; the input reads as it did. -/
def wordPacksSpec : ChangeSpec := { name := "wordPacks", fn := fun _ => fun
  | [d1, d2, d3] => { results := [.lit (.bool true)], args := [d1, d2, d3] }
  | _ => none }
def wordPacksRow : OpenClaim := { program := "ytahmhhbpdgopjaadoor", sum := "0133ea309acdf7762d336e91dcf8572c6fce33acad7927929b4c2384e9bdafdd", func := "windrow/windrowlaw01.WordPacks", spec := "wordPacks", named := ["math/bits.deBruijn64tab"], apart := false, laid := [("math/bits.deBruijn64tab", laid_math_bits_deBruijn64tab)] }
def WordPacksSaid : Prop := wordPacksRow.holds Tryd.pinned (OpenSpec.ofChange wordPacksSpec)

/-- ITS FALSE NEIGHBOUR: 'it returns false'. Refute it at one input. -/
def wordPacksWrong : ChangeSpec := { name := "wordPacks", fn := fun _ => fun
  | [d1, d2, d3] => { results := [.lit (.bool false)], args := [d1, d2, d3] }
  | _ => none }
def WordPacksWrongFalsely : Prop := wordPacksRow.holds Tryd.pinned (OpenSpec.ofChange wordPacksWrong)

/-- 'windrowlaw01.WordWheels': WHATEVER THE INPUT: true; the input reads as it did. -/
def wordWheelsSpec : ChangeSpec := { name := "wordWheels", fn := fun _ => fun
  | [d1, d2, d3] => { results := [.lit (.bool true)], args := [d1, d2, d3] }
  | _ => none }
def wordWheelsRow : OpenClaim := { program := "ytahmhhbpdgopjaadoor", sum := "0133ea309acdf7762d336e91dcf8572c6fce33acad7927929b4c2384e9bdafdd", func := "windrow/windrowlaw01.WordWheels", spec := "wordWheels", named := ["math/bits.deBruijn64tab"], apart := false, laid := [("math/bits.deBruijn64tab", laid_math_bits_deBruijn64tab)] }
def WordWheelsSaid : Prop := wordWheelsRow.holds Tryd.pinned (OpenSpec.ofChange wordWheelsSpec)

/-- ITS FALSE NEIGHBOUR: 'it returns false'. Refute it at one input. -/
def wordWheelsWrong : ChangeSpec := { name := "wordWheels", fn := fun _ => fun
  | [d1, d2, d3] => { results := [.lit (.bool false)], args := [d1, d2, d3] }
  | _ => none }
def WordWheelsWrongFalsely : Prop := wordWheelsRow.holds Tryd.pinned (OpenSpec.ofChange wordWheelsWrong)

/-- 'windrowlaw01.WordSelects': WHATEVER THE INPUT: true; the input reads as it did. -/
def wordSelectsSpec : ChangeSpec := { name := "wordSelects", fn := fun _ => fun
  | [d1, d2] => { results := [.lit (.bool true)], args := [d1, d2] }
  | _ => none }
def wordSelectsRow : OpenClaim := { program := "ytahmhhbpdgopjaadoor", sum := "0133ea309acdf7762d336e91dcf8572c6fce33acad7927929b4c2384e9bdafdd", func := "windrow/windrowlaw01.WordSelects", spec := "wordSelects", named := ["math/bits.deBruijn64tab"], apart := false, laid := [("math/bits.deBruijn64tab", laid_math_bits_deBruijn64tab)] }
def WordSelectsSaid : Prop := wordSelectsRow.holds Tryd.pinned (OpenSpec.ofChange wordSelectsSpec)

/-- ITS FALSE NEIGHBOUR: 'it returns false'. Refute it at one input. -/
def wordSelectsWrong : ChangeSpec := { name := "wordSelects", fn := fun _ => fun
  | [d1, d2] => { results := [.lit (.bool false)], args := [d1, d2] }
  | _ => none }
def WordSelectsWrongFalsely : Prop := wordSelectsRow.holds Tryd.pinned (OpenSpec.ofChange wordSelectsWrong)

/-- 'windrowlaw01.WordUndoes': WHATEVER THE INPUT: true; the input reads as it did. -/
def wordUndoesSpec : ChangeSpec := { name := "wordUndoes", fn := fun _ => fun
  | [d1, d2] => { results := [.lit (.bool true)], args := [d1, d2] }
  | _ => none }
def wordUndoesRow : OpenClaim := { program := "ytahmhhbpdgopjaadoor", sum := "0133ea309acdf7762d336e91dcf8572c6fce33acad7927929b4c2384e9bdafdd", func := "windrow/windrowlaw01.WordUndoes", spec := "wordUndoes", named := ["math/bits.deBruijn64tab"], apart := false, laid := [("math/bits.deBruijn64tab", laid_math_bits_deBruijn64tab)] }
def WordUndoesSaid : Prop := wordUndoesRow.holds Tryd.pinned (OpenSpec.ofChange wordUndoesSpec)

/-- ITS FALSE NEIGHBOUR: 'it returns false'. Refute it at one input. -/
def wordUndoesWrong : ChangeSpec := { name := "wordUndoes", fn := fun _ => fun
  | [d1, d2] => { results := [.lit (.bool false)], args := [d1, d2] }
  | _ => none }
def WordUndoesWrongFalsely : Prop := wordUndoesRow.holds Tryd.pinned (OpenSpec.ofChange wordUndoesWrong)

/-- 'windrowlaw01.WordCounts': WHATEVER THE INPUT: true; the input reads as it did. -/
def wordCountsSpec : ChangeSpec := { name := "wordCounts", fn := fun _ => fun
  | [d1, d2] => { results := [.lit (.bool true)], args := [d1, d2] }
  | _ => none }
def wordCountsRow : OpenClaim := { program := "ytahmhhbpdgopjaadoor", sum := "0133ea309acdf7762d336e91dcf8572c6fce33acad7927929b4c2384e9bdafdd", func := "windrow/windrowlaw01.WordCounts", spec := "wordCounts", named := ["math/bits.deBruijn64tab"], apart := false, laid := [("math/bits.deBruijn64tab", laid_math_bits_deBruijn64tab)] }
def WordCountsSaid : Prop := wordCountsRow.holds Tryd.pinned (OpenSpec.ofChange wordCountsSpec)

/-- ITS FALSE NEIGHBOUR: 'it returns false'. Refute it at one input. -/
def wordCountsWrong : ChangeSpec := { name := "wordCounts", fn := fun _ => fun
  | [d1, d2] => { results := [.lit (.bool false)], args := [d1, d2] }
  | _ => none }
def WordCountsWrongFalsely : Prop := wordCountsRow.holds Tryd.pinned (OpenSpec.ofChange wordCountsWrong)

/- THE SECOND FORM. 'bulk': how many values and letters a reading holds, each counted each time it is reached (what is shared counts as often as it is met; a slice's spare places count too). A statement '..UptoSaid' is the law's where the arguments, and the package variables that the reading takes, are together of bulk at most 1048576: NARROWER than '..Said'. Prove '..Said' where nothing that the law and all that it calls make is longer than what came in: it says more and counts as full. Else prove '..UptoSaid'. A law counts once. -/
mutual
def uptoBulk {H : Type} : DataW H → Nat
  | .lit (.string bytes) => bytes.length + 1
  | .lit _ => 1
  | .nil => 1
  | .ptr d => uptoBulk d + 1
  | .slice elems spare => uptoBulkAll elems + uptoBulkAll spare + 1
  | .agg parts => uptoBulkAll parts + 1
  | .iface _ d => uptoBulk d + 1
  | .map entries => uptoBulkEntries entries + 1
  | .held _ => 1
def uptoBulkAll {H : Type} : List (DataW H) → Nat
  | [] => 0
  | d :: r => uptoBulk d + uptoBulkAll r
def uptoBulkEntries {H : Type} : List (Lit × DataW H) → Nat
  | [] => 0
  | x :: r => uptoBulkEntry x + uptoBulkEntries r
def uptoBulkEntry {H : Type} : Lit × DataW H → Nat
  | (.string bytes, d) => bytes.length + uptoBulk d + 1
  | (_, d) => uptoBulk d + 1
 end
def uptoSmall : (H : Type) → List (DataW H) → Bool := fun _ ds => decide (uptoBulkAll ds ≤ 1048576)
def OpenSpec.upto (s : _root_.Go.ChangeSpec) : _root_.Go.OpenSpec := { _root_.Go.OpenSpec.ofChange s with cond := some uptoSmall }

/-- 'windrowlaw01.WordGaps', WHERE WHAT IT READS IS OF BULK AT MOST 1048576: true; the input reads as it did. -/
def wordGapsUptoRow : OpenClaim := { program := "ytahmhhbpdgopjaadoor", sum := "0133ea309acdf7762d336e91dcf8572c6fce33acad7927929b4c2384e9bdafdd", func := "windrow/windrowlaw01.WordGaps", spec := "wordGaps", named := ["math/bits.deBruijn64tab"], apart := false, laid := [("math/bits.deBruijn64tab", laid_math_bits_deBruijn64tab)], narrowed := true }
def WordGapsUptoSaid : Prop := wordGapsUptoRow.holds Tryd.pinned (OpenSpec.upto wordGapsSpec)

/-- 'windrowlaw01.WordKept', WHERE WHAT IT READS IS OF BULK AT MOST 1048576: true; the input reads as it did. -/
def wordKeptUptoRow : OpenClaim := { program := "ytahmhhbpdgopjaadoor", sum := "0133ea309acdf7762d336e91dcf8572c6fce33acad7927929b4c2384e9bdafdd", func := "windrow/windrowlaw01.WordKept", spec := "wordKept", named := ["math/bits.deBruijn64tab"], apart := false, laid := [("math/bits.deBruijn64tab", laid_math_bits_deBruijn64tab)], narrowed := true }
def WordKeptUptoSaid : Prop := wordKeptUptoRow.holds Tryd.pinned (OpenSpec.upto wordKeptSpec)

/-- 'windrowlaw01.WordHoles', WHERE WHAT IT READS IS OF BULK AT MOST 1048576: true; the input reads as it did. -/
def wordHolesUptoRow : OpenClaim := { program := "ytahmhhbpdgopjaadoor", sum := "0133ea309acdf7762d336e91dcf8572c6fce33acad7927929b4c2384e9bdafdd", func := "windrow/windrowlaw01.WordHoles", spec := "wordHoles", named := ["math/bits.deBruijn64tab"], apart := false, laid := [("math/bits.deBruijn64tab", laid_math_bits_deBruijn64tab)], narrowed := true }
def WordHolesUptoSaid : Prop := wordHolesUptoRow.holds Tryd.pinned (OpenSpec.upto wordHolesSpec)

/-- 'windrowlaw01.WordFields', WHERE WHAT IT READS IS OF BULK AT MOST 1048576: true; the input reads as it did. -/
def wordFieldsUptoRow : OpenClaim := { program := "ytahmhhbpdgopjaadoor", sum := "0133ea309acdf7762d336e91dcf8572c6fce33acad7927929b4c2384e9bdafdd", func := "windrow/windrowlaw01.WordFields", spec := "wordFields", named := ["math/bits.deBruijn64tab"], apart := false, laid := [("math/bits.deBruijn64tab", laid_math_bits_deBruijn64tab)], narrowed := true }
def WordFieldsUptoSaid : Prop := wordFieldsUptoRow.holds Tryd.pinned (OpenSpec.upto wordFieldsSpec)

/-- 'windrowlaw01.WordTurns', WHERE WHAT IT READS IS OF BULK AT MOST 1048576: true; the input reads as it did. -/
def wordTurnsUptoRow : OpenClaim := { program := "ytahmhhbpdgopjaadoor", sum := "0133ea309acdf7762d336e91dcf8572c6fce33acad7927929b4c2384e9bdafdd", func := "windrow/windrowlaw01.WordTurns", spec := "wordTurns", named := ["math/bits.deBruijn64tab"], apart := false, laid := [("math/bits.deBruijn64tab", laid_math_bits_deBruijn64tab)], narrowed := true }
def WordTurnsUptoSaid : Prop := wordTurnsUptoRow.holds Tryd.pinned (OpenSpec.upto wordTurnsSpec)

/-- 'windrowlaw01.WordRoom', WHERE WHAT IT READS IS OF BULK AT MOST 1048576: true; the input reads as it did. -/
def wordRoomUptoRow : OpenClaim := { program := "ytahmhhbpdgopjaadoor", sum := "0133ea309acdf7762d336e91dcf8572c6fce33acad7927929b4c2384e9bdafdd", func := "windrow/windrowlaw01.WordRoom", spec := "wordRoom", named := ["math/bits.deBruijn64tab"], apart := false, laid := [("math/bits.deBruijn64tab", laid_math_bits_deBruijn64tab)], narrowed := true }
def WordRoomUptoSaid : Prop := wordRoomUptoRow.holds Tryd.pinned (OpenSpec.upto wordRoomSpec)

/-- 'windrowlaw01.WordPacks', WHERE WHAT IT READS IS OF BULK AT MOST 1048576: true; the input reads as it did. -/
def wordPacksUptoRow : OpenClaim := { program := "ytahmhhbpdgopjaadoor", sum := "0133ea309acdf7762d336e91dcf8572c6fce33acad7927929b4c2384e9bdafdd", func := "windrow/windrowlaw01.WordPacks", spec := "wordPacks", named := ["math/bits.deBruijn64tab"], apart := false, laid := [("math/bits.deBruijn64tab", laid_math_bits_deBruijn64tab)], narrowed := true }
def WordPacksUptoSaid : Prop := wordPacksUptoRow.holds Tryd.pinned (OpenSpec.upto wordPacksSpec)

/-- 'windrowlaw01.WordWheels', WHERE WHAT IT READS IS OF BULK AT MOST 1048576: true; the input reads as it did. -/
def wordWheelsUptoRow : OpenClaim := { program := "ytahmhhbpdgopjaadoor", sum := "0133ea309acdf7762d336e91dcf8572c6fce33acad7927929b4c2384e9bdafdd", func := "windrow/windrowlaw01.WordWheels", spec := "wordWheels", named := ["math/bits.deBruijn64tab"], apart := false, laid := [("math/bits.deBruijn64tab", laid_math_bits_deBruijn64tab)], narrowed := true }
def WordWheelsUptoSaid : Prop := wordWheelsUptoRow.holds Tryd.pinned (OpenSpec.upto wordWheelsSpec)

/-- 'windrowlaw01.WordSelects', WHERE WHAT IT READS IS OF BULK AT MOST 1048576: true; the input reads as it did. -/
def wordSelectsUptoRow : OpenClaim := { program := "ytahmhhbpdgopjaadoor", sum := "0133ea309acdf7762d336e91dcf8572c6fce33acad7927929b4c2384e9bdafdd", func := "windrow/windrowlaw01.WordSelects", spec := "wordSelects", named := ["math/bits.deBruijn64tab"], apart := false, laid := [("math/bits.deBruijn64tab", laid_math_bits_deBruijn64tab)], narrowed := true }
def WordSelectsUptoSaid : Prop := wordSelectsUptoRow.holds Tryd.pinned (OpenSpec.upto wordSelectsSpec)

/-- 'windrowlaw01.WordUndoes', WHERE WHAT IT READS IS OF BULK AT MOST 1048576: true; the input reads as it did. -/
def wordUndoesUptoRow : OpenClaim := { program := "ytahmhhbpdgopjaadoor", sum := "0133ea309acdf7762d336e91dcf8572c6fce33acad7927929b4c2384e9bdafdd", func := "windrow/windrowlaw01.WordUndoes", spec := "wordUndoes", named := ["math/bits.deBruijn64tab"], apart := false, laid := [("math/bits.deBruijn64tab", laid_math_bits_deBruijn64tab)], narrowed := true }
def WordUndoesUptoSaid : Prop := wordUndoesUptoRow.holds Tryd.pinned (OpenSpec.upto wordUndoesSpec)

/-- 'windrowlaw01.WordCounts', WHERE WHAT IT READS IS OF BULK AT MOST 1048576: true; the input reads as it did. -/
def wordCountsUptoRow : OpenClaim := { program := "ytahmhhbpdgopjaadoor", sum := "0133ea309acdf7762d336e91dcf8572c6fce33acad7927929b4c2384e9bdafdd", func := "windrow/windrowlaw01.WordCounts", spec := "wordCounts", named := ["math/bits.deBruijn64tab"], apart := false, laid := [("math/bits.deBruijn64tab", laid_math_bits_deBruijn64tab)], narrowed := true }
def WordCountsUptoSaid : Prop := wordCountsUptoRow.holds Tryd.pinned (OpenSpec.upto wordCountsSpec)

end Rows
end Go.Proofs.YtahmhhbpdgopjaaDoor
