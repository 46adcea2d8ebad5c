/-
  No cell of these rows narrows 'for every input' (looked for: loops, veiled, ifaces, maps, wideKeys, modest, calm, conditions, laid).
  DERIVED. THE GIVEN ROWS OF THIS SEAT. 5 by the template 'for every input the law returns true; each argument reads behind the call as it read before'; 0 by the template 'total and deterministic' (their statements: YtmbgfmdmihmgdaaTotals.lean).
  GIVEN WITH THE SEED: the statements are not yours to turn. If you find one false, say at which input.
  Laid BY PROGRAM, IN A SANDBOX (cutbox-rows.mjs): the forced cells as the released guide's own fill.sh prints them over the translation 9b47a220ae312bbf… (all of the seat's roots in one cut). By AI agents, Wed Nov 11 2026. No macro, syntax, notation, axiom, sorry.
-/
import Derived.Test.YtmbgfmdmihmgdaaChecked
import GoSem.Claim
import GoSem.ClaimJoined
import GoSem.ClaimMapViews
import Derived.JoinedTies
import Derived.KernelRfl
namespace Go.Proofs.Ytmbgfmdmihmgdaa
/- THE CELL 'sum', in the pinned program and in every row, IS THE sha256 OF THE DUMP (.gsa) THAT YtmbgfmdmihmgdaaProg.lean LOADS. Nothing in Lean hashes anything: it is a label: what it is worth is what the hold of that sum in a sandbox is worth. -/
noncomputable def Try.pinned : Pinned := { name := "ytmbgfmdmihmgdaa", sum := "9b47a220ae312bbfd0b6f114309a6957c67998964753749fe187ea5ddbad2905", checked := Try.checked }
namespace Rows
def none {H : Type} : Left H := { results := [], args := [] }

/-- 'windrowlaw06.LayoutNew': WHATEVER THE INPUT: true; the input reads as it did. -/
def layoutNewSpec : ChangeSpec := { name := "layoutNew", fn := fun _ => fun
  | [d1, d2, d3] => { results := [.lit (.bool true)], args := [d1, d2, d3] }
  | _ => none }
def layoutNewRow : OpenClaim := { program := "ytmbgfmdmihmgdaa", sum := "9b47a220ae312bbfd0b6f114309a6957c67998964753749fe187ea5ddbad2905", func := "windrow/windrowlaw06.LayoutNew", spec := "layoutNew", apart := false }
def LayoutNewSaid : Prop := layoutNewRow.holds Try.pinned (OpenSpec.ofChange layoutNewSpec)

/-- ITS FALSE NEIGHBOUR: 'it returns false'. Refute it at one input. -/
def layoutNewWrong : ChangeSpec := { name := "layoutNew", fn := fun _ => fun
  | [d1, d2, d3] => { results := [.lit (.bool false)], args := [d1, d2, d3] }
  | _ => none }
def LayoutNewWrongFalsely : Prop := layoutNewRow.holds Try.pinned (OpenSpec.ofChange layoutNewWrong)

/-- 'windrowlaw06.LayoutThings': WHATEVER THE INPUT: true; the input reads as it did. -/
def layoutThingsSpec : ChangeSpec := { name := "layoutThings", fn := fun _ => fun
  | [d] => { results := [.lit (.bool true)], args := [d] }
  | _ => none }
def layoutThingsRow : OpenClaim := { program := "ytmbgfmdmihmgdaa", sum := "9b47a220ae312bbfd0b6f114309a6957c67998964753749fe187ea5ddbad2905", func := "windrow/windrowlaw06.LayoutThings", spec := "layoutThings", apart := false }
def LayoutThingsSaid : Prop := layoutThingsRow.holds Try.pinned (OpenSpec.ofChange layoutThingsSpec)

/-- ITS FALSE NEIGHBOUR: 'it returns false'. Refute it at one input. -/
def layoutThingsWrong : ChangeSpec := { name := "layoutThings", fn := fun _ => fun
  | [d] => { results := [.lit (.bool false)], args := [d] }
  | _ => none }
def LayoutThingsWrongFalsely : Prop := layoutThingsRow.holds Try.pinned (OpenSpec.ofChange layoutThingsWrong)

/-- 'windrowlaw06.LayoutHeap': WHATEVER THE INPUT: true; the input reads as it did. -/
def layoutHeapSpec : ChangeSpec := { name := "layoutHeap", fn := fun _ => fun
  | [d] => { results := [.lit (.bool true)], args := [d] }
  | _ => none }
def layoutHeapRow : OpenClaim := { program := "ytmbgfmdmihmgdaa", sum := "9b47a220ae312bbfd0b6f114309a6957c67998964753749fe187ea5ddbad2905", func := "windrow/windrowlaw06.LayoutHeap", spec := "layoutHeap", apart := false }
def LayoutHeapSaid : Prop := layoutHeapRow.holds Try.pinned (OpenSpec.ofChange layoutHeapSpec)

/-- ITS FALSE NEIGHBOUR: 'it returns false'. Refute it at one input. -/
def layoutHeapWrong : ChangeSpec := { name := "layoutHeap", fn := fun _ => fun
  | [d] => { results := [.lit (.bool false)], args := [d] }
  | _ => none }
def LayoutHeapWrongFalsely : Prop := layoutHeapRow.holds Try.pinned (OpenSpec.ofChange layoutHeapWrong)

/-- 'windrowlaw06.LayoutFinds': WHATEVER THE INPUT: true; the input reads as it did. -/
def layoutFindsSpec : ChangeSpec := { name := "layoutFinds", fn := fun _ => fun
  | [d1, d2, d3] => { results := [.lit (.bool true)], args := [d1, d2, d3] }
  | _ => none }
def layoutFindsRow : OpenClaim := { program := "ytmbgfmdmihmgdaa", sum := "9b47a220ae312bbfd0b6f114309a6957c67998964753749fe187ea5ddbad2905", func := "windrow/windrowlaw06.LayoutFinds", spec := "layoutFinds", apart := false }
def LayoutFindsSaid : Prop := layoutFindsRow.holds Try.pinned (OpenSpec.ofChange layoutFindsSpec)

/-- ITS FALSE NEIGHBOUR: 'it returns false'. Refute it at one input. -/
def layoutFindsWrong : ChangeSpec := { name := "layoutFinds", fn := fun _ => fun
  | [d1, d2, d3] => { results := [.lit (.bool false)], args := [d1, d2, d3] }
  | _ => none }
def LayoutFindsWrongFalsely : Prop := layoutFindsRow.holds Try.pinned (OpenSpec.ofChange layoutFindsWrong)

/-- 'windrowlaw06.LayoutApart': WHATEVER THE INPUT: true; the input reads as it did. -/
def layoutApartSpec : ChangeSpec := { name := "layoutApart", fn := fun _ => fun
  | [d] => { results := [.lit (.bool true)], args := [d] }
  | _ => none }
def layoutApartRow : OpenClaim := { program := "ytmbgfmdmihmgdaa", sum := "9b47a220ae312bbfd0b6f114309a6957c67998964753749fe187ea5ddbad2905", func := "windrow/windrowlaw06.LayoutApart", spec := "layoutApart", apart := false }
def LayoutApartSaid : Prop := layoutApartRow.holds Try.pinned (OpenSpec.ofChange layoutApartSpec)

/-- ITS FALSE NEIGHBOUR: 'it returns false'. Refute it at one input. -/
def layoutApartWrong : ChangeSpec := { name := "layoutApart", fn := fun _ => fun
  | [d] => { results := [.lit (.bool false)], args := [d] }
  | _ => none }
def LayoutApartWrongFalsely : Prop := layoutApartRow.holds Try.pinned (OpenSpec.ofChange layoutApartWrong)

/- THE SECOND FORM. 'bulk': how many values and letters a reading holds, each counted each time it is reached (what is shared counts as often as it is met; a slice's spare places count too). A statement '..UptoSaid' is the law's where the arguments, and the package variables that the reading takes, are together of bulk at most 1048576: NARROWER than '..Said'. Prove '..Said' where nothing that the law and all that it calls make is longer than what came in: it says more and counts as full. Else prove '..UptoSaid'. A law counts once. -/
mutual
def uptoBulk {H : Type} : DataW H → Nat
  | .lit (.string bytes) => bytes.length + 1
  | .lit _ => 1
  | .nil => 1
  | .ptr d => uptoBulk d + 1
  | .slice elems spare => uptoBulkAll elems + uptoBulkAll spare + 1
  | .agg parts => uptoBulkAll parts + 1
  | .iface _ d => uptoBulk d + 1
  | .map entries => uptoBulkEntries entries + 1
  | .held _ => 1
def uptoBulkAll {H : Type} : List (DataW H) → Nat
  | [] => 0
  | d :: r => uptoBulk d + uptoBulkAll r
def uptoBulkEntries {H : Type} : List (Lit × DataW H) → Nat
  | [] => 0
  | x :: r => uptoBulkEntry x + uptoBulkEntries r
def uptoBulkEntry {H : Type} : Lit × DataW H → Nat
  | (.string bytes, d) => bytes.length + uptoBulk d + 1
  | (_, d) => uptoBulk d + 1
 end
def uptoSmall : (H : Type) → List (DataW H) → Bool := fun _ ds => decide (uptoBulkAll ds ≤ 1048576)
def OpenSpec.upto (s : _root_.Go.ChangeSpec) : _root_.Go.OpenSpec := { _root_.Go.OpenSpec.ofChange s with cond := some uptoSmall }

/-- 'windrowlaw06.LayoutNew', WHERE WHAT IT READS IS OF BULK AT MOST 1048576: true; the input reads as it did. -/
def layoutNewUptoRow : OpenClaim := { program := "ytmbgfmdmihmgdaa", sum := "9b47a220ae312bbfd0b6f114309a6957c67998964753749fe187ea5ddbad2905", func := "windrow/windrowlaw06.LayoutNew", spec := "layoutNew", apart := false, narrowed := true }
def LayoutNewUptoSaid : Prop := layoutNewUptoRow.holds Try.pinned (OpenSpec.upto layoutNewSpec)

/-- 'windrowlaw06.LayoutThings', WHERE WHAT IT READS IS OF BULK AT MOST 1048576: true; the input reads as it did. -/
def layoutThingsUptoRow : OpenClaim := { program := "ytmbgfmdmihmgdaa", sum := "9b47a220ae312bbfd0b6f114309a6957c67998964753749fe187ea5ddbad2905", func := "windrow/windrowlaw06.LayoutThings", spec := "layoutThings", apart := false, narrowed := true }
def LayoutThingsUptoSaid : Prop := layoutThingsUptoRow.holds Try.pinned (OpenSpec.upto layoutThingsSpec)

/-- 'windrowlaw06.LayoutHeap', WHERE WHAT IT READS IS OF BULK AT MOST 1048576: true; the input reads as it did. -/
def layoutHeapUptoRow : OpenClaim := { program := "ytmbgfmdmihmgdaa", sum := "9b47a220ae312bbfd0b6f114309a6957c67998964753749fe187ea5ddbad2905", func := "windrow/windrowlaw06.LayoutHeap", spec := "layoutHeap", apart := false, narrowed := true }
def LayoutHeapUptoSaid : Prop := layoutHeapUptoRow.holds Try.pinned (OpenSpec.upto layoutHeapSpec)

/-- 'windrowlaw06.LayoutFinds', WHERE WHAT IT READS IS OF BULK AT MOST 1048576: true; the input reads as it did. -/
def layoutFindsUptoRow : OpenClaim := { program := "ytmbgfmdmihmgdaa", sum := "9b47a220ae312bbfd0b6f114309a6957c67998964753749fe187ea5ddbad2905", func := "windrow/windrowlaw06.LayoutFinds", spec := "layoutFinds", apart := false, narrowed := true }
def LayoutFindsUptoSaid : Prop := layoutFindsUptoRow.holds Try.pinned (OpenSpec.upto layoutFindsSpec)

/-- 'windrowlaw06.LayoutApart', WHERE WHAT IT READS IS OF BULK AT MOST 1048576: true; the input reads as it did. -/
def layoutApartUptoRow : OpenClaim := { program := "ytmbgfmdmihmgdaa", sum := "9b47a220ae312bbfd0b6f114309a6957c67998964753749fe187ea5ddbad2905", func := "windrow/windrowlaw06.LayoutApart", spec := "layoutApart", apart := false, narrowed := true }
def LayoutApartUptoSaid : Prop := layoutApartUptoRow.holds Try.pinned (OpenSpec.upto layoutApartSpec)

end Rows
end Go.Proofs.Ytmbgfmdmihmgdaa
