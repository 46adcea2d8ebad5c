/-
  No cell of these rows narrows 'for every input' (looked for: loops, veiled, ifaces, maps, wideKeys, modest, calm, conditions, laid).
  DERIVED. THE GIVEN ROWS OF THIS SEAT. 5 by the template 'for every input the law returns true; each argument reads behind the call as it read before'; 0 by the template 'total and deterministic' (their statements: YteankgbcmfkfnaaTotals.lean).
  GIVEN WITH THE SEED: the statements are not yours to turn. If you find one false, say at which input.
  Laid BY PROGRAM, IN A SANDBOX (cutbox-rows.mjs): the forced cells as the released guide's own fill.sh prints them over the translation f88cc2f76a0ccf36… (all of the seat's roots in one cut). By AI agents, Wed Nov 11 2026. No macro, syntax, notation, axiom, sorry.
-/
import Derived.Test.YteankgbcmfkfnaaChecked
import GoSem.Claim
import GoSem.ClaimJoined
import GoSem.ClaimMapViews
import Derived.JoinedTies
import Derived.KernelRfl
namespace Go.Proofs.Yteankgbcmfkfnaa
/- THE CELL 'sum', in the pinned program and in every row, IS THE sha256 OF THE DUMP (.gsa) THAT YteankgbcmfkfnaaProg.lean LOADS. Nothing in Lean hashes anything: it is a label: what it is worth is what the hold of that sum in a sandbox is worth. -/
noncomputable def Try.pinned : Pinned := { name := "yteankgbcmfkfnaa", sum := "f88cc2f76a0ccf36d531cdb946adc6d40fea05cccddfd3ad821f1037531a845e", checked := Try.checked }
namespace Rows
def none {H : Type} : Left H := { results := [], args := [] }

/-- 'windrowlaw10.ClassesNames': WHATEVER THE INPUT: true; the input reads as it did. -/
def classesNamesSpec : ChangeSpec := { name := "classesNames", fn := fun _ => fun
  | [d] => { results := [.lit (.bool true)], args := [d] }
  | _ => none }
def classesNamesRow : OpenClaim := { program := "yteankgbcmfkfnaa", sum := "f88cc2f76a0ccf36d531cdb946adc6d40fea05cccddfd3ad821f1037531a845e", func := "windrow/windrowlaw10.ClassesNames", spec := "classesNames", apart := false }
def ClassesNamesSaid : Prop := classesNamesRow.holds Try.pinned (OpenSpec.ofChange classesNamesSpec)

/-- ITS FALSE NEIGHBOUR: 'it returns false'. Refute it at one input. -/
def classesNamesWrong : ChangeSpec := { name := "classesNames", fn := fun _ => fun
  | [d] => { results := [.lit (.bool false)], args := [d] }
  | _ => none }
def ClassesNamesWrongFalsely : Prop := classesNamesRow.holds Try.pinned (OpenSpec.ofChange classesNamesWrong)

/-- 'windrowlaw10.ClassesMakes': WHATEVER THE INPUT: true; the input reads as it did. -/
def classesMakesSpec : ChangeSpec := { name := "classesMakes", fn := fun _ => fun
  | [d] => { results := [.lit (.bool true)], args := [d] }
  | _ => none }
def classesMakesRow : OpenClaim := { program := "yteankgbcmfkfnaa", sum := "f88cc2f76a0ccf36d531cdb946adc6d40fea05cccddfd3ad821f1037531a845e", func := "windrow/windrowlaw10.ClassesMakes", spec := "classesMakes", apart := false }
def ClassesMakesSaid : Prop := classesMakesRow.holds Try.pinned (OpenSpec.ofChange classesMakesSpec)

/-- ITS FALSE NEIGHBOUR: 'it returns false'. Refute it at one input. -/
def classesMakesWrong : ChangeSpec := { name := "classesMakes", fn := fun _ => fun
  | [d] => { results := [.lit (.bool false)], args := [d] }
  | _ => none }
def ClassesMakesWrongFalsely : Prop := classesMakesRow.holds Try.pinned (OpenSpec.ofChange classesMakesWrong)

/-- 'windrowlaw10.ClassesKeeps': WHATEVER THE INPUT: true; the input reads as it did. -/
def classesKeepsSpec : ChangeSpec := { name := "classesKeeps", fn := fun _ => fun
  | [d1, d2] => { results := [.lit (.bool true)], args := [d1, d2] }
  | _ => none }
def classesKeepsRow : OpenClaim := { program := "yteankgbcmfkfnaa", sum := "f88cc2f76a0ccf36d531cdb946adc6d40fea05cccddfd3ad821f1037531a845e", func := "windrow/windrowlaw10.ClassesKeeps", spec := "classesKeeps", apart := false }
def ClassesKeepsSaid : Prop := classesKeepsRow.holds Try.pinned (OpenSpec.ofChange classesKeepsSpec)

/-- ITS FALSE NEIGHBOUR: 'it returns false'. Refute it at one input. -/
def classesKeepsWrong : ChangeSpec := { name := "classesKeeps", fn := fun _ => fun
  | [d1, d2] => { results := [.lit (.bool false)], args := [d1, d2] }
  | _ => none }
def ClassesKeepsWrongFalsely : Prop := classesKeepsRow.holds Try.pinned (OpenSpec.ofChange classesKeepsWrong)

/-- 'windrowlaw10.ClassesSame': WHATEVER THE INPUT: true; the input reads as it did. -/
def classesSameSpec : ChangeSpec := { name := "classesSame", fn := fun _ => fun
  | [d1, d2] => { results := [.lit (.bool true)], args := [d1, d2] }
  | _ => none }
def classesSameRow : OpenClaim := { program := "yteankgbcmfkfnaa", sum := "f88cc2f76a0ccf36d531cdb946adc6d40fea05cccddfd3ad821f1037531a845e", func := "windrow/windrowlaw10.ClassesSame", spec := "classesSame", apart := false }
def ClassesSameSaid : Prop := classesSameRow.holds Try.pinned (OpenSpec.ofChange classesSameSpec)

/-- ITS FALSE NEIGHBOUR: 'it returns false'. Refute it at one input. -/
def classesSameWrong : ChangeSpec := { name := "classesSame", fn := fun _ => fun
  | [d1, d2] => { results := [.lit (.bool false)], args := [d1, d2] }
  | _ => none }
def ClassesSameWrongFalsely : Prop := classesSameRow.holds Try.pinned (OpenSpec.ofChange classesSameWrong)

/-- 'windrowlaw10.ClassesFinds': WHATEVER THE INPUT: true; the input reads as it did. -/
def classesFindsSpec : ChangeSpec := { name := "classesFinds", fn := fun _ => fun
  | [d] => { results := [.lit (.bool true)], args := [d] }
  | _ => none }
def classesFindsRow : OpenClaim := { program := "yteankgbcmfkfnaa", sum := "f88cc2f76a0ccf36d531cdb946adc6d40fea05cccddfd3ad821f1037531a845e", func := "windrow/windrowlaw10.ClassesFinds", spec := "classesFinds", apart := false }
def ClassesFindsSaid : Prop := classesFindsRow.holds Try.pinned (OpenSpec.ofChange classesFindsSpec)

/-- ITS FALSE NEIGHBOUR: 'it returns false'. Refute it at one input. -/
def classesFindsWrong : ChangeSpec := { name := "classesFinds", fn := fun _ => fun
  | [d] => { results := [.lit (.bool false)], args := [d] }
  | _ => none }
def ClassesFindsWrongFalsely : Prop := classesFindsRow.holds Try.pinned (OpenSpec.ofChange classesFindsWrong)

/- THE SECOND FORM. 'bulk': how many values and letters a reading holds, each counted each time it is reached (what is shared counts as often as it is met; a slice's spare places count too). A statement '..UptoSaid' is the law's where the arguments, and the package variables that the reading takes, are together of bulk at most 1048576: NARROWER than '..Said'. Prove '..Said' where nothing that the law and all that it calls make is longer than what came in: it says more and counts as full. Else prove '..UptoSaid'. A law counts once. -/
mutual
def uptoBulk {H : Type} : DataW H → Nat
  | .lit (.string bytes) => bytes.length + 1
  | .lit _ => 1
  | .nil => 1
  | .ptr d => uptoBulk d + 1
  | .slice elems spare => uptoBulkAll elems + uptoBulkAll spare + 1
  | .agg parts => uptoBulkAll parts + 1
  | .iface _ d => uptoBulk d + 1
  | .map entries => uptoBulkEntries entries + 1
  | .held _ => 1
def uptoBulkAll {H : Type} : List (DataW H) → Nat
  | [] => 0
  | d :: r => uptoBulk d + uptoBulkAll r
def uptoBulkEntries {H : Type} : List (Lit × DataW H) → Nat
  | [] => 0
  | x :: r => uptoBulkEntry x + uptoBulkEntries r
def uptoBulkEntry {H : Type} : Lit × DataW H → Nat
  | (.string bytes, d) => bytes.length + uptoBulk d + 1
  | (_, d) => uptoBulk d + 1
 end
def uptoSmall : (H : Type) → List (DataW H) → Bool := fun _ ds => decide (uptoBulkAll ds ≤ 1048576)
def OpenSpec.upto (s : _root_.Go.ChangeSpec) : _root_.Go.OpenSpec := { _root_.Go.OpenSpec.ofChange s with cond := some uptoSmall }

/-- 'windrowlaw10.ClassesNames', WHERE WHAT IT READS IS OF BULK AT MOST 1048576: true; the input reads as it did. -/
def classesNamesUptoRow : OpenClaim := { program := "yteankgbcmfkfnaa", sum := "f88cc2f76a0ccf36d531cdb946adc6d40fea05cccddfd3ad821f1037531a845e", func := "windrow/windrowlaw10.ClassesNames", spec := "classesNames", apart := false, narrowed := true }
def ClassesNamesUptoSaid : Prop := classesNamesUptoRow.holds Try.pinned (OpenSpec.upto classesNamesSpec)

/-- 'windrowlaw10.ClassesMakes', WHERE WHAT IT READS IS OF BULK AT MOST 1048576: true; the input reads as it did. -/
def classesMakesUptoRow : OpenClaim := { program := "yteankgbcmfkfnaa", sum := "f88cc2f76a0ccf36d531cdb946adc6d40fea05cccddfd3ad821f1037531a845e", func := "windrow/windrowlaw10.ClassesMakes", spec := "classesMakes", apart := false, narrowed := true }
def ClassesMakesUptoSaid : Prop := classesMakesUptoRow.holds Try.pinned (OpenSpec.upto classesMakesSpec)

/-- 'windrowlaw10.ClassesKeeps', WHERE WHAT IT READS IS OF BULK AT MOST 1048576: true; the input reads as it did. -/
def classesKeepsUptoRow : OpenClaim := { program := "yteankgbcmfkfnaa", sum := "f88cc2f76a0ccf36d531cdb946adc6d40fea05cccddfd3ad821f1037531a845e", func := "windrow/windrowlaw10.ClassesKeeps", spec := "classesKeeps", apart := false, narrowed := true }
def ClassesKeepsUptoSaid : Prop := classesKeepsUptoRow.holds Try.pinned (OpenSpec.upto classesKeepsSpec)

/-- 'windrowlaw10.ClassesSame', WHERE WHAT IT READS IS OF BULK AT MOST 1048576: true; the input reads as it did. -/
def classesSameUptoRow : OpenClaim := { program := "yteankgbcmfkfnaa", sum := "f88cc2f76a0ccf36d531cdb946adc6d40fea05cccddfd3ad821f1037531a845e", func := "windrow/windrowlaw10.ClassesSame", spec := "classesSame", apart := false, narrowed := true }
def ClassesSameUptoSaid : Prop := classesSameUptoRow.holds Try.pinned (OpenSpec.upto classesSameSpec)

/-- 'windrowlaw10.ClassesFinds', WHERE WHAT IT READS IS OF BULK AT MOST 1048576: true; the input reads as it did. -/
def classesFindsUptoRow : OpenClaim := { program := "yteankgbcmfkfnaa", sum := "f88cc2f76a0ccf36d531cdb946adc6d40fea05cccddfd3ad821f1037531a845e", func := "windrow/windrowlaw10.ClassesFinds", spec := "classesFinds", apart := false, narrowed := true }
def ClassesFindsUptoSaid : Prop := classesFindsUptoRow.holds Try.pinned (OpenSpec.upto classesFindsSpec)

end Rows
end Go.Proofs.Yteankgbcmfkfnaa
