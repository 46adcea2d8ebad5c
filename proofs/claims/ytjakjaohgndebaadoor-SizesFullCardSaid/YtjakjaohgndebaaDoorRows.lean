/-
  NARROWER THAN 'FOR EVERY INPUT', by the rows' own cells (each row's printed sentence says how): SizesTables: laid · SizesLeast: laid · SizesCovers: laid · SizesChooses: laid · SizesRounds: laid · SizesFull: laid · SizesCells: laid.
  DERIVED. THE GIVEN ROWS OF THIS SEAT. 7 by the template 'for every input the law returns true; each argument reads behind the call as it read before'; 0 by the template 'total and deterministic' (their statements: YtjakjaohgndebaaDoorTotals.lean).
  GIVEN WITH THE SEED: the statements are not yours to turn. If you find one false, say at which input.
  Laid BY PROGRAM, IN A SANDBOX (cutbox-rows.mjs): the forced cells as the released guide's own fill.sh prints them over the translation 9f21db8a67b387ba… (all of the seat's roots in one cut). By AI agents, Wed Nov 11 2026. No macro, syntax, notation, axiom, sorry.
-/
import Derived.Test.YtjakjaohgndebaaDoorChecked
import GoSem.Claim
import GoSem.ClaimJoined
import GoSem.ClaimMapViews
import Derived.JoinedTies
import Derived.KernelRfl
namespace Go.Proofs.YtjakjaohgndebaaDoor
/- THE CELL 'sum', in the pinned program and in every row, IS THE sha256 OF THE DUMP (.gsa) THAT YtjakjaohgndebaaDoorProg.lean LOADS. Nothing in Lean hashes anything: it is a label: what it is worth is what the hold of that sum in a sandbox is worth. -/
noncomputable def Tryd.pinned : Pinned := { name := "ytjakjaohgndebaadoor", sum := "9f21db8a67b387baa365f98deb88f8ff99a8404edb9e3d903c4d29a094300ee5", checked := Tryd.checked }
namespace Rows
def none {H : Type} : Left H := { results := [], args := [] }

/- WHAT THE LISTED PACKAGE-LEVEL VARIABLES READ AS WHEN THE CALL BEGINS. Each datum BY PROGRAM (the guide's laid-datum.mjs) off the statement by which the dump's own 'gosem.cut.vars' lays the variable. In a bare row this is a premise. The card (YtjakjaohgndebaaDoorCards.lean) ties it to the program's text. -/
def laid_math_bits_deBruijn64tab {H : Type} : DataW H := .agg [.lit (.int .u8 0), .lit (.int .u8 1), .lit (.int .u8 56), .lit (.int .u8 2), .lit (.int .u8 57), .lit (.int .u8 49), .lit (.int .u8 28), .lit (.int .u8 3), .lit (.int .u8 61), .lit (.int .u8 58), .lit (.int .u8 42), .lit (.int .u8 50), .lit (.int .u8 38), .lit (.int .u8 29), .lit (.int .u8 17), .lit (.int .u8 4), .lit (.int .u8 62), .lit (.int .u8 47), .lit (.int .u8 59), .lit (.int .u8 36), .lit (.int .u8 45), .lit (.int .u8 43), .lit (.int .u8 51), .lit (.int .u8 22), .lit (.int .u8 53), .lit (.int .u8 39), .lit (.int .u8 33), .lit (.int .u8 30), .lit (.int .u8 24), .lit (.int .u8 18), .lit (.int .u8 12), .lit (.int .u8 5), .lit (.int .u8 63), .lit (.int .u8 55), .lit (.int .u8 48), .lit (.int .u8 27), .lit (.int .u8 60), .lit (.int .u8 41), .lit (.int .u8 37), .lit (.int .u8 16), .lit (.int .u8 46), .lit (.int .u8 35), .lit (.int .u8 44), .lit (.int .u8 21), .lit (.int .u8 52), .lit (.int .u8 32), .lit (.int .u8 23), .lit (.int .u8 11), .lit (.int .u8 54), .lit (.int .u8 26), .lit (.int .u8 40), .lit (.int .u8 15), .lit (.int .u8 34), .lit (.int .u8 20), .lit (.int .u8 31), .lit (.int .u8 10), .lit (.int .u8 25), .lit (.int .u8 14), .lit (.int .u8 19), .lit (.int .u8 9), .lit (.int .u8 13), .lit (.int .u8 8), .lit (.int .u8 7), .lit (.int .u8 6)]
def laid_windrow_sizes_sizeOf {H : Type} : DataW H := .agg [.lit (.int .i64 2), .lit (.int .i64 3), .lit (.int .i64 4), .lit (.int .i64 6), .lit (.int .i64 8), .lit (.int .i64 12), .lit (.int .i64 16), .lit (.int .i64 32)]

/-- 'windrowlaw05.SizesTables': WHATEVER THE INPUT: true; the input reads as it did. -/
def sizesTablesSpec : ChangeSpec := { name := "sizesTables", fn := fun _ => fun
  | [d] => { results := [.lit (.bool true)], args := [d] }
  | _ => none }
def sizesTablesRow : OpenClaim := { program := "ytjakjaohgndebaadoor", sum := "9f21db8a67b387baa365f98deb88f8ff99a8404edb9e3d903c4d29a094300ee5", func := "windrow/windrowlaw05.SizesTables", spec := "sizesTables", unfollowed := true, recurses := true, named := ["windrow/sizes.sizeOf", "math/bits.deBruijn64tab"], apart := false, laid := [("math/bits.deBruijn64tab", laid_math_bits_deBruijn64tab), ("windrow/sizes.sizeOf", laid_windrow_sizes_sizeOf)] }
def SizesTablesSaid : Prop := sizesTablesRow.holds Tryd.pinned (OpenSpec.ofChange sizesTablesSpec)

/-- ITS FALSE NEIGHBOUR: 'it returns false'. Refute it at one input. -/
def sizesTablesWrong : ChangeSpec := { name := "sizesTables", fn := fun _ => fun
  | [d] => { results := [.lit (.bool false)], args := [d] }
  | _ => none }
def SizesTablesWrongFalsely : Prop := sizesTablesRow.holds Tryd.pinned (OpenSpec.ofChange sizesTablesWrong)

/-- 'windrowlaw05.SizesLeast': WHATEVER THE INPUT: true; the input reads as it did. -/
def sizesLeastSpec : ChangeSpec := { name := "sizesLeast", fn := fun _ => fun
  | [d1, d2] => { results := [.lit (.bool true)], args := [d1, d2] }
  | _ => none }
def sizesLeastRow : OpenClaim := { program := "ytjakjaohgndebaadoor", sum := "9f21db8a67b387baa365f98deb88f8ff99a8404edb9e3d903c4d29a094300ee5", func := "windrow/windrowlaw05.SizesLeast", spec := "sizesLeast", unfollowed := true, recurses := true, named := ["windrow/sizes.sizeOf", "math/bits.deBruijn64tab"], apart := false, laid := [("math/bits.deBruijn64tab", laid_math_bits_deBruijn64tab), ("windrow/sizes.sizeOf", laid_windrow_sizes_sizeOf)] }
def SizesLeastSaid : Prop := sizesLeastRow.holds Tryd.pinned (OpenSpec.ofChange sizesLeastSpec)

/-- ITS FALSE NEIGHBOUR: 'it returns false'. Refute it at one input. -/
def sizesLeastWrong : ChangeSpec := { name := "sizesLeast", fn := fun _ => fun
  | [d1, d2] => { results := [.lit (.bool false)], args := [d1, d2] }
  | _ => none }
def SizesLeastWrongFalsely : Prop := sizesLeastRow.holds Tryd.pinned (OpenSpec.ofChange sizesLeastWrong)

/-- 'windrowlaw05.SizesCovers': WHATEVER THE INPUT: true; the input reads as it did. -/
def sizesCoversSpec : ChangeSpec := { name := "sizesCovers", fn := fun _ => fun
  | [d] => { results := [.lit (.bool true)], args := [d] }
  | _ => none }
def sizesCoversRow : OpenClaim := { program := "ytjakjaohgndebaadoor", sum := "9f21db8a67b387baa365f98deb88f8ff99a8404edb9e3d903c4d29a094300ee5", func := "windrow/windrowlaw05.SizesCovers", spec := "sizesCovers", unfollowed := true, recurses := true, named := ["windrow/sizes.sizeOf", "math/bits.deBruijn64tab"], apart := false, laid := [("math/bits.deBruijn64tab", laid_math_bits_deBruijn64tab), ("windrow/sizes.sizeOf", laid_windrow_sizes_sizeOf)] }
def SizesCoversSaid : Prop := sizesCoversRow.holds Tryd.pinned (OpenSpec.ofChange sizesCoversSpec)

/-- ITS FALSE NEIGHBOUR: 'it returns false'. Refute it at one input. -/
def sizesCoversWrong : ChangeSpec := { name := "sizesCovers", fn := fun _ => fun
  | [d] => { results := [.lit (.bool false)], args := [d] }
  | _ => none }
def SizesCoversWrongFalsely : Prop := sizesCoversRow.holds Tryd.pinned (OpenSpec.ofChange sizesCoversWrong)

/-- 'windrowlaw05.SizesChooses': WHATEVER THE INPUT: true; the input reads as it did. -/
def sizesChoosesSpec : ChangeSpec := { name := "sizesChooses", fn := fun _ => fun
  | [d1, d2] => { results := [.lit (.bool true)], args := [d1, d2] }
  | _ => none }
def sizesChoosesRow : OpenClaim := { program := "ytjakjaohgndebaadoor", sum := "9f21db8a67b387baa365f98deb88f8ff99a8404edb9e3d903c4d29a094300ee5", func := "windrow/windrowlaw05.SizesChooses", spec := "sizesChooses", unfollowed := true, recurses := true, named := ["windrow/sizes.sizeOf", "math/bits.deBruijn64tab"], apart := false, laid := [("math/bits.deBruijn64tab", laid_math_bits_deBruijn64tab), ("windrow/sizes.sizeOf", laid_windrow_sizes_sizeOf)] }
def SizesChoosesSaid : Prop := sizesChoosesRow.holds Tryd.pinned (OpenSpec.ofChange sizesChoosesSpec)

/-- ITS FALSE NEIGHBOUR: 'it returns false'. Refute it at one input. -/
def sizesChoosesWrong : ChangeSpec := { name := "sizesChooses", fn := fun _ => fun
  | [d1, d2] => { results := [.lit (.bool false)], args := [d1, d2] }
  | _ => none }
def SizesChoosesWrongFalsely : Prop := sizesChoosesRow.holds Tryd.pinned (OpenSpec.ofChange sizesChoosesWrong)

/-- 'windrowlaw05.SizesRounds': WHATEVER THE INPUT: true; the input reads as it did. -/
def sizesRoundsSpec : ChangeSpec := { name := "sizesRounds", fn := fun _ => fun
  | [d1, d2] => { results := [.lit (.bool true)], args := [d1, d2] }
  | _ => none }
def sizesRoundsRow : OpenClaim := { program := "ytjakjaohgndebaadoor", sum := "9f21db8a67b387baa365f98deb88f8ff99a8404edb9e3d903c4d29a094300ee5", func := "windrow/windrowlaw05.SizesRounds", spec := "sizesRounds", unfollowed := true, recurses := true, named := ["windrow/sizes.sizeOf", "math/bits.deBruijn64tab"], apart := false, laid := [("math/bits.deBruijn64tab", laid_math_bits_deBruijn64tab), ("windrow/sizes.sizeOf", laid_windrow_sizes_sizeOf)] }
def SizesRoundsSaid : Prop := sizesRoundsRow.holds Tryd.pinned (OpenSpec.ofChange sizesRoundsSpec)

/-- ITS FALSE NEIGHBOUR: 'it returns false'. Refute it at one input. -/
def sizesRoundsWrong : ChangeSpec := { name := "sizesRounds", fn := fun _ => fun
  | [d1, d2] => { results := [.lit (.bool false)], args := [d1, d2] }
  | _ => none }
def SizesRoundsWrongFalsely : Prop := sizesRoundsRow.holds Tryd.pinned (OpenSpec.ofChange sizesRoundsWrong)

/-- 'windrowlaw05.SizesFull': WHATEVER THE INPUT: true; the input reads as it did. -/
def sizesFullSpec : ChangeSpec := { name := "sizesFull", fn := fun _ => fun
  | [d1, d2] => { results := [.lit (.bool true)], args := [d1, d2] }
  | _ => none }
def sizesFullRow : OpenClaim := { program := "ytjakjaohgndebaadoor", sum := "9f21db8a67b387baa365f98deb88f8ff99a8404edb9e3d903c4d29a094300ee5", func := "windrow/windrowlaw05.SizesFull", spec := "sizesFull", unfollowed := true, recurses := true, named := ["windrow/sizes.sizeOf", "math/bits.deBruijn64tab"], apart := false, laid := [("math/bits.deBruijn64tab", laid_math_bits_deBruijn64tab), ("windrow/sizes.sizeOf", laid_windrow_sizes_sizeOf)] }
def SizesFullSaid : Prop := sizesFullRow.holds Tryd.pinned (OpenSpec.ofChange sizesFullSpec)

/-- ITS FALSE NEIGHBOUR: 'it returns false'. Refute it at one input. -/
def sizesFullWrong : ChangeSpec := { name := "sizesFull", fn := fun _ => fun
  | [d1, d2] => { results := [.lit (.bool false)], args := [d1, d2] }
  | _ => none }
def SizesFullWrongFalsely : Prop := sizesFullRow.holds Tryd.pinned (OpenSpec.ofChange sizesFullWrong)

/-- 'windrowlaw05.SizesCells': WHATEVER THE INPUT: true; the input reads as it did. -/
def sizesCellsSpec : ChangeSpec := { name := "sizesCells", fn := fun _ => fun
  | [d1, d2, d3] => { results := [.lit (.bool true)], args := [d1, d2, d3] }
  | _ => none }
def sizesCellsRow : OpenClaim := { program := "ytjakjaohgndebaadoor", sum := "9f21db8a67b387baa365f98deb88f8ff99a8404edb9e3d903c4d29a094300ee5", func := "windrow/windrowlaw05.SizesCells", spec := "sizesCells", unfollowed := true, recurses := true, named := ["windrow/sizes.sizeOf", "math/bits.deBruijn64tab"], apart := false, laid := [("math/bits.deBruijn64tab", laid_math_bits_deBruijn64tab), ("windrow/sizes.sizeOf", laid_windrow_sizes_sizeOf)] }
def SizesCellsSaid : Prop := sizesCellsRow.holds Tryd.pinned (OpenSpec.ofChange sizesCellsSpec)

/-- ITS FALSE NEIGHBOUR: 'it returns false'. Refute it at one input. -/
def sizesCellsWrong : ChangeSpec := { name := "sizesCells", fn := fun _ => fun
  | [d1, d2, d3] => { results := [.lit (.bool false)], args := [d1, d2, d3] }
  | _ => none }
def SizesCellsWrongFalsely : Prop := sizesCellsRow.holds Tryd.pinned (OpenSpec.ofChange sizesCellsWrong)

/- THE SECOND FORM. 'bulk': how many values and letters a reading holds, each counted each time it is reached (what is shared counts as often as it is met; a slice's spare places count too). A statement '..UptoSaid' is the law's where the arguments, and the package variables that the reading takes, are together of bulk at most 1048576: NARROWER than '..Said'. Prove '..Said' where nothing that the law and all that it calls make is longer than what came in: it says more and counts as full. Else prove '..UptoSaid'. A law counts once. -/
mutual
def uptoBulk {H : Type} : DataW H → Nat
  | .lit (.string bytes) => bytes.length + 1
  | .lit _ => 1
  | .nil => 1
  | .ptr d => uptoBulk d + 1
  | .slice elems spare => uptoBulkAll elems + uptoBulkAll spare + 1
  | .agg parts => uptoBulkAll parts + 1
  | .iface _ d => uptoBulk d + 1
  | .map entries => uptoBulkEntries entries + 1
  | .held _ => 1
def uptoBulkAll {H : Type} : List (DataW H) → Nat
  | [] => 0
  | d :: r => uptoBulk d + uptoBulkAll r
def uptoBulkEntries {H : Type} : List (Lit × DataW H) → Nat
  | [] => 0
  | x :: r => uptoBulkEntry x + uptoBulkEntries r
def uptoBulkEntry {H : Type} : Lit × DataW H → Nat
  | (.string bytes, d) => bytes.length + uptoBulk d + 1
  | (_, d) => uptoBulk d + 1
 end
def uptoSmall : (H : Type) → List (DataW H) → Bool := fun _ ds => decide (uptoBulkAll ds ≤ 1048576)
def OpenSpec.upto (s : _root_.Go.ChangeSpec) : _root_.Go.OpenSpec := { _root_.Go.OpenSpec.ofChange s with cond := some uptoSmall }

/-- 'windrowlaw05.SizesTables', WHERE WHAT IT READS IS OF BULK AT MOST 1048576: true; the input reads as it did. -/
def sizesTablesUptoRow : OpenClaim := { program := "ytjakjaohgndebaadoor", sum := "9f21db8a67b387baa365f98deb88f8ff99a8404edb9e3d903c4d29a094300ee5", func := "windrow/windrowlaw05.SizesTables", spec := "sizesTables", unfollowed := true, recurses := true, named := ["windrow/sizes.sizeOf", "math/bits.deBruijn64tab"], apart := false, laid := [("math/bits.deBruijn64tab", laid_math_bits_deBruijn64tab), ("windrow/sizes.sizeOf", laid_windrow_sizes_sizeOf)], narrowed := true }
def SizesTablesUptoSaid : Prop := sizesTablesUptoRow.holds Tryd.pinned (OpenSpec.upto sizesTablesSpec)

/-- 'windrowlaw05.SizesLeast', WHERE WHAT IT READS IS OF BULK AT MOST 1048576: true; the input reads as it did. -/
def sizesLeastUptoRow : OpenClaim := { program := "ytjakjaohgndebaadoor", sum := "9f21db8a67b387baa365f98deb88f8ff99a8404edb9e3d903c4d29a094300ee5", func := "windrow/windrowlaw05.SizesLeast", spec := "sizesLeast", unfollowed := true, recurses := true, named := ["windrow/sizes.sizeOf", "math/bits.deBruijn64tab"], apart := false, laid := [("math/bits.deBruijn64tab", laid_math_bits_deBruijn64tab), ("windrow/sizes.sizeOf", laid_windrow_sizes_sizeOf)], narrowed := true }
def SizesLeastUptoSaid : Prop := sizesLeastUptoRow.holds Tryd.pinned (OpenSpec.upto sizesLeastSpec)

/-- 'windrowlaw05.SizesCovers', WHERE WHAT IT READS IS OF BULK AT MOST 1048576: true; the input reads as it did. -/
def sizesCoversUptoRow : OpenClaim := { program := "ytjakjaohgndebaadoor", sum := "9f21db8a67b387baa365f98deb88f8ff99a8404edb9e3d903c4d29a094300ee5", func := "windrow/windrowlaw05.SizesCovers", spec := "sizesCovers", unfollowed := true, recurses := true, named := ["windrow/sizes.sizeOf", "math/bits.deBruijn64tab"], apart := false, laid := [("math/bits.deBruijn64tab", laid_math_bits_deBruijn64tab), ("windrow/sizes.sizeOf", laid_windrow_sizes_sizeOf)], narrowed := true }
def SizesCoversUptoSaid : Prop := sizesCoversUptoRow.holds Tryd.pinned (OpenSpec.upto sizesCoversSpec)

/-- 'windrowlaw05.SizesChooses', WHERE WHAT IT READS IS OF BULK AT MOST 1048576: true; the input reads as it did. -/
def sizesChoosesUptoRow : OpenClaim := { program := "ytjakjaohgndebaadoor", sum := "9f21db8a67b387baa365f98deb88f8ff99a8404edb9e3d903c4d29a094300ee5", func := "windrow/windrowlaw05.SizesChooses", spec := "sizesChooses", unfollowed := true, recurses := true, named := ["windrow/sizes.sizeOf", "math/bits.deBruijn64tab"], apart := false, laid := [("math/bits.deBruijn64tab", laid_math_bits_deBruijn64tab), ("windrow/sizes.sizeOf", laid_windrow_sizes_sizeOf)], narrowed := true }
def SizesChoosesUptoSaid : Prop := sizesChoosesUptoRow.holds Tryd.pinned (OpenSpec.upto sizesChoosesSpec)

/-- 'windrowlaw05.SizesRounds', WHERE WHAT IT READS IS OF BULK AT MOST 1048576: true; the input reads as it did. -/
def sizesRoundsUptoRow : OpenClaim := { program := "ytjakjaohgndebaadoor", sum := "9f21db8a67b387baa365f98deb88f8ff99a8404edb9e3d903c4d29a094300ee5", func := "windrow/windrowlaw05.SizesRounds", spec := "sizesRounds", unfollowed := true, recurses := true, named := ["windrow/sizes.sizeOf", "math/bits.deBruijn64tab"], apart := false, laid := [("math/bits.deBruijn64tab", laid_math_bits_deBruijn64tab), ("windrow/sizes.sizeOf", laid_windrow_sizes_sizeOf)], narrowed := true }
def SizesRoundsUptoSaid : Prop := sizesRoundsUptoRow.holds Tryd.pinned (OpenSpec.upto sizesRoundsSpec)

/-- 'windrowlaw05.SizesFull', WHERE WHAT IT READS IS OF BULK AT MOST 1048576: true; the input reads as it did. -/
def sizesFullUptoRow : OpenClaim := { program := "ytjakjaohgndebaadoor", sum := "9f21db8a67b387baa365f98deb88f8ff99a8404edb9e3d903c4d29a094300ee5", func := "windrow/windrowlaw05.SizesFull", spec := "sizesFull", unfollowed := true, recurses := true, named := ["windrow/sizes.sizeOf", "math/bits.deBruijn64tab"], apart := false, laid := [("math/bits.deBruijn64tab", laid_math_bits_deBruijn64tab), ("windrow/sizes.sizeOf", laid_windrow_sizes_sizeOf)], narrowed := true }
def SizesFullUptoSaid : Prop := sizesFullUptoRow.holds Tryd.pinned (OpenSpec.upto sizesFullSpec)

/-- 'windrowlaw05.SizesCells', WHERE WHAT IT READS IS OF BULK AT MOST 1048576: true; the input reads as it did. -/
def sizesCellsUptoRow : OpenClaim := { program := "ytjakjaohgndebaadoor", sum := "9f21db8a67b387baa365f98deb88f8ff99a8404edb9e3d903c4d29a094300ee5", func := "windrow/windrowlaw05.SizesCells", spec := "sizesCells", unfollowed := true, recurses := true, named := ["windrow/sizes.sizeOf", "math/bits.deBruijn64tab"], apart := false, laid := [("math/bits.deBruijn64tab", laid_math_bits_deBruijn64tab), ("windrow/sizes.sizeOf", laid_windrow_sizes_sizeOf)], narrowed := true }
def SizesCellsUptoSaid : Prop := sizesCellsUptoRow.holds Tryd.pinned (OpenSpec.upto sizesCellsSpec)

end Rows
end Go.Proofs.YtjakjaohgndebaaDoor
