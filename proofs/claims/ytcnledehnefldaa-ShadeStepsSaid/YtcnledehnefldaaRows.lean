/-
  No cell of these rows narrows 'for every input' (looked for: loops, veiled, ifaces, maps, wideKeys, modest, calm, conditions, laid).
  DERIVED. THE GIVEN ROWS OF THIS SEAT. 4 by the template 'for every input the law returns true; each argument reads behind the call as it read before'; 0 by the template 'total and deterministic' (their statements: YtcnledehnefldaaTotals.lean).
  GIVEN WITH THE SEED: the statements are not yours to turn. If you find one false, say at which input.
  Laid BY PROGRAM, IN A SANDBOX (cutbox-rows.mjs): the forced cells as the released guide's own fill.sh prints them over the translation 577f61c81b45b73c… (all of the seat's roots in one cut). By AI agents, Wed Nov 11 2026. No macro, syntax, notation, axiom, sorry.
-/
import Derived.Test.YtcnledehnefldaaChecked
import GoSem.Claim
import GoSem.ClaimJoined
import GoSem.ClaimMapViews
import Derived.JoinedTies
import Derived.KernelRfl
namespace Go.Proofs.Ytcnledehnefldaa
/- THE CELL 'sum', in the pinned program and in every row, IS THE sha256 OF THE DUMP (.gsa) THAT YtcnledehnefldaaProg.lean LOADS. Nothing in Lean hashes anything: it is a label: what it is worth is what the hold of that sum in a sandbox is worth. -/
noncomputable def Try.pinned : Pinned := { name := "ytcnledehnefldaa", sum := "577f61c81b45b73c8a81fb7e0f28d67e73b79490fc0dd7f268f10efa403b53f1", checked := Try.checked }
namespace Rows
def none {H : Type} : Left H := { results := [], args := [] }

/-- 'windrowlaw08.ShadeNils': WHATEVER THE INPUT: true; the input reads as it did. -/
def shadeNilsSpec : ChangeSpec := { name := "shadeNils", fn := fun _ => fun
  | [d1, d2, d3] => { results := [.lit (.bool true)], args := [d1, d2, d3] }
  | _ => none }
def shadeNilsRow : OpenClaim := { program := "ytcnledehnefldaa", sum := "577f61c81b45b73c8a81fb7e0f28d67e73b79490fc0dd7f268f10efa403b53f1", func := "windrow/windrowlaw08.ShadeNils", spec := "shadeNils", unfollowed := true, recurses := true, apart := false }
def ShadeNilsSaid : Prop := shadeNilsRow.holds Try.pinned (OpenSpec.ofChange shadeNilsSpec)

/-- ITS FALSE NEIGHBOUR: 'it returns false'. Refute it at one input. -/
def shadeNilsWrong : ChangeSpec := { name := "shadeNils", fn := fun _ => fun
  | [d1, d2, d3] => { results := [.lit (.bool false)], args := [d1, d2, d3] }
  | _ => none }
def ShadeNilsWrongFalsely : Prop := shadeNilsRow.holds Try.pinned (OpenSpec.ofChange shadeNilsWrong)

/-- 'windrowlaw08.ShadeOne': WHATEVER THE INPUT: true; the input reads as it did. -/
def shadeOneSpec : ChangeSpec := { name := "shadeOne", fn := fun _ => fun
  | [d] => { results := [.lit (.bool true)], args := [d] }
  | _ => none }
def shadeOneRow : OpenClaim := { program := "ytcnledehnefldaa", sum := "577f61c81b45b73c8a81fb7e0f28d67e73b79490fc0dd7f268f10efa403b53f1", func := "windrow/windrowlaw08.ShadeOne", spec := "shadeOne", unfollowed := true, recurses := true, apart := false }
def ShadeOneSaid : Prop := shadeOneRow.holds Try.pinned (OpenSpec.ofChange shadeOneSpec)

/-- ITS FALSE NEIGHBOUR: 'it returns false'. Refute it at one input. -/
def shadeOneWrong : ChangeSpec := { name := "shadeOne", fn := fun _ => fun
  | [d] => { results := [.lit (.bool false)], args := [d] }
  | _ => none }
def ShadeOneWrongFalsely : Prop := shadeOneRow.holds Try.pinned (OpenSpec.ofChange shadeOneWrong)

/-- 'windrowlaw08.ShadeSteps': WHATEVER THE INPUT: true; the input reads as it did. -/
def shadeStepsSpec : ChangeSpec := { name := "shadeSteps", fn := fun _ => fun
  | [d1, d2] => { results := [.lit (.bool true)], args := [d1, d2] }
  | _ => none }
def shadeStepsRow : OpenClaim := { program := "ytcnledehnefldaa", sum := "577f61c81b45b73c8a81fb7e0f28d67e73b79490fc0dd7f268f10efa403b53f1", func := "windrow/windrowlaw08.ShadeSteps", spec := "shadeSteps", unfollowed := true, recurses := true, apart := false }
def ShadeStepsSaid : Prop := shadeStepsRow.holds Try.pinned (OpenSpec.ofChange shadeStepsSpec)

/-- ITS FALSE NEIGHBOUR: 'it returns false'. Refute it at one input. -/
def shadeStepsWrong : ChangeSpec := { name := "shadeSteps", fn := fun _ => fun
  | [d1, d2] => { results := [.lit (.bool false)], args := [d1, d2] }
  | _ => none }
def ShadeStepsWrongFalsely : Prop := shadeStepsRow.holds Try.pinned (OpenSpec.ofChange shadeStepsWrong)

/-- 'windrowlaw08.ShadeKept': WHATEVER THE INPUT: true; the input reads as it did. -/
def shadeKeptSpec : ChangeSpec := { name := "shadeKept", fn := fun _ => fun
  | [d1, d2] => { results := [.lit (.bool true)], args := [d1, d2] }
  | _ => none }
def shadeKeptRow : OpenClaim := { program := "ytcnledehnefldaa", sum := "577f61c81b45b73c8a81fb7e0f28d67e73b79490fc0dd7f268f10efa403b53f1", func := "windrow/windrowlaw08.ShadeKept", spec := "shadeKept", unfollowed := true, recurses := true, apart := false }
def ShadeKeptSaid : Prop := shadeKeptRow.holds Try.pinned (OpenSpec.ofChange shadeKeptSpec)

/-- ITS FALSE NEIGHBOUR: 'it returns false'. Refute it at one input. -/
def shadeKeptWrong : ChangeSpec := { name := "shadeKept", fn := fun _ => fun
  | [d1, d2] => { results := [.lit (.bool false)], args := [d1, d2] }
  | _ => none }
def ShadeKeptWrongFalsely : Prop := shadeKeptRow.holds Try.pinned (OpenSpec.ofChange shadeKeptWrong)

/- THE SECOND FORM. 'bulk': how many values and letters a reading holds, each counted each time it is reached (what is shared counts as often as it is met; a slice's spare places count too). A statement '..UptoSaid' is the law's where the arguments, and the package variables that the reading takes, are together of bulk at most 1048576: NARROWER than '..Said'. Prove '..Said' where nothing that the law and all that it calls make is longer than what came in: it says more and counts as full. Else prove '..UptoSaid'. A law counts once. -/
mutual
def uptoBulk {H : Type} : DataW H → Nat
  | .lit (.string bytes) => bytes.length + 1
  | .lit _ => 1
  | .nil => 1
  | .ptr d => uptoBulk d + 1
  | .slice elems spare => uptoBulkAll elems + uptoBulkAll spare + 1
  | .agg parts => uptoBulkAll parts + 1
  | .iface _ d => uptoBulk d + 1
  | .map entries => uptoBulkEntries entries + 1
  | .held _ => 1
def uptoBulkAll {H : Type} : List (DataW H) → Nat
  | [] => 0
  | d :: r => uptoBulk d + uptoBulkAll r
def uptoBulkEntries {H : Type} : List (Lit × DataW H) → Nat
  | [] => 0
  | x :: r => uptoBulkEntry x + uptoBulkEntries r
def uptoBulkEntry {H : Type} : Lit × DataW H → Nat
  | (.string bytes, d) => bytes.length + uptoBulk d + 1
  | (_, d) => uptoBulk d + 1
 end
def uptoSmall : (H : Type) → List (DataW H) → Bool := fun _ ds => decide (uptoBulkAll ds ≤ 1048576)
def OpenSpec.upto (s : _root_.Go.ChangeSpec) : _root_.Go.OpenSpec := { _root_.Go.OpenSpec.ofChange s with cond := some uptoSmall }

/-- 'windrowlaw08.ShadeNils', WHERE WHAT IT READS IS OF BULK AT MOST 1048576: true; the input reads as it did. -/
def shadeNilsUptoRow : OpenClaim := { program := "ytcnledehnefldaa", sum := "577f61c81b45b73c8a81fb7e0f28d67e73b79490fc0dd7f268f10efa403b53f1", func := "windrow/windrowlaw08.ShadeNils", spec := "shadeNils", unfollowed := true, recurses := true, apart := false, narrowed := true }
def ShadeNilsUptoSaid : Prop := shadeNilsUptoRow.holds Try.pinned (OpenSpec.upto shadeNilsSpec)

/-- 'windrowlaw08.ShadeOne', WHERE WHAT IT READS IS OF BULK AT MOST 1048576: true; the input reads as it did. -/
def shadeOneUptoRow : OpenClaim := { program := "ytcnledehnefldaa", sum := "577f61c81b45b73c8a81fb7e0f28d67e73b79490fc0dd7f268f10efa403b53f1", func := "windrow/windrowlaw08.ShadeOne", spec := "shadeOne", unfollowed := true, recurses := true, apart := false, narrowed := true }
def ShadeOneUptoSaid : Prop := shadeOneUptoRow.holds Try.pinned (OpenSpec.upto shadeOneSpec)

/-- 'windrowlaw08.ShadeSteps', WHERE WHAT IT READS IS OF BULK AT MOST 1048576: true; the input reads as it did. -/
def shadeStepsUptoRow : OpenClaim := { program := "ytcnledehnefldaa", sum := "577f61c81b45b73c8a81fb7e0f28d67e73b79490fc0dd7f268f10efa403b53f1", func := "windrow/windrowlaw08.ShadeSteps", spec := "shadeSteps", unfollowed := true, recurses := true, apart := false, narrowed := true }
def ShadeStepsUptoSaid : Prop := shadeStepsUptoRow.holds Try.pinned (OpenSpec.upto shadeStepsSpec)

/-- 'windrowlaw08.ShadeKept', WHERE WHAT IT READS IS OF BULK AT MOST 1048576: true; the input reads as it did. -/
def shadeKeptUptoRow : OpenClaim := { program := "ytcnledehnefldaa", sum := "577f61c81b45b73c8a81fb7e0f28d67e73b79490fc0dd7f268f10efa403b53f1", func := "windrow/windrowlaw08.ShadeKept", spec := "shadeKept", unfollowed := true, recurses := true, apart := false, narrowed := true }
def ShadeKeptUptoSaid : Prop := shadeKeptUptoRow.holds Try.pinned (OpenSpec.upto shadeKeptSpec)

end Rows
end Go.Proofs.Ytcnledehnefldaa
