/-
  No cell of these rows narrows 'for every input' (looked for: loops, veiled, ifaces, maps, wideKeys, modest, calm, conditions, laid).
  DERIVED. THE GIVEN ROWS OF THIS SEAT. 6 by the template 'for every input the law returns true; each argument reads behind the call as it read before'; 0 by the template 'total and deterministic' (their statements: YtjoejpkompaplaaTotals.lean).
  GIVEN WITH THE SEED: the statements are not yours to turn. If you find one false, say at which input.
  Laid BY PROGRAM, IN A SANDBOX (cutbox-rows.mjs): the forced cells as the released guide's own fill.sh prints them over the translation f21ae139b356c75b… (all of the seat's roots in one cut). By AI agents, Wed Nov 11 2026. No macro, syntax, notation, axiom, sorry.
-/
import Derived.Test.YtjoejpkompaplaaChecked
import GoSem.Claim
import GoSem.ClaimJoined
import GoSem.ClaimMapViews
import Derived.JoinedTies
import Derived.KernelRfl
namespace Go.Proofs.Ytjoejpkompaplaa
/- THE CELL 'sum', in the pinned program and in every row, IS THE sha256 OF THE DUMP (.gsa) THAT YtjoejpkompaplaaProg.lean LOADS. Nothing in Lean hashes anything: it is a label: what it is worth is what the hold of that sum in a sandbox is worth. -/
noncomputable def Try.pinned : Pinned := { name := "ytjoejpkompaplaa", sum := "f21ae139b356c75b1b0c3dbf1f0da7281194a876a8d12fde05e316eb4d424f91", checked := Try.checked }
namespace Rows
def none {H : Type} : Left H := { results := [], args := [] }

/-- 'windrowlaw02.HeaderUnlike': WHATEVER THE INPUT: true; the input reads as it did. -/
def headerUnlikeSpec : ChangeSpec := { name := "headerUnlike", fn := fun _ => fun
  | [d] => { results := [.lit (.bool true)], args := [d] }
  | _ => none }
def headerUnlikeRow : OpenClaim := { program := "ytjoejpkompaplaa", sum := "f21ae139b356c75b1b0c3dbf1f0da7281194a876a8d12fde05e316eb4d424f91", func := "windrow/windrowlaw02.HeaderUnlike", spec := "headerUnlike", apart := false }
def HeaderUnlikeSaid : Prop := headerUnlikeRow.holds Try.pinned (OpenSpec.ofChange headerUnlikeSpec)

/-- ITS FALSE NEIGHBOUR: 'it returns false'. Refute it at one input. -/
def headerUnlikeWrong : ChangeSpec := { name := "headerUnlike", fn := fun _ => fun
  | [d] => { results := [.lit (.bool false)], args := [d] }
  | _ => none }
def HeaderUnlikeWrongFalsely : Prop := headerUnlikeRow.holds Try.pinned (OpenSpec.ofChange headerUnlikeWrong)

/-- 'windrowlaw02.HeaderHeads': WHATEVER THE INPUT: true; the input reads as it did. -/
def headerHeadsSpec : ChangeSpec := { name := "headerHeads", fn := fun _ => fun
  | [d1, d2] => { results := [.lit (.bool true)], args := [d1, d2] }
  | _ => none }
def headerHeadsRow : OpenClaim := { program := "ytjoejpkompaplaa", sum := "f21ae139b356c75b1b0c3dbf1f0da7281194a876a8d12fde05e316eb4d424f91", func := "windrow/windrowlaw02.HeaderHeads", spec := "headerHeads", apart := false }
def HeaderHeadsSaid : Prop := headerHeadsRow.holds Try.pinned (OpenSpec.ofChange headerHeadsSpec)

/-- ITS FALSE NEIGHBOUR: 'it returns false'. Refute it at one input. -/
def headerHeadsWrong : ChangeSpec := { name := "headerHeads", fn := fun _ => fun
  | [d1, d2] => { results := [.lit (.bool false)], args := [d1, d2] }
  | _ => none }
def HeaderHeadsWrongFalsely : Prop := headerHeadsRow.holds Try.pinned (OpenSpec.ofChange headerHeadsWrong)

/-- 'windrowlaw02.HeaderStates': WHATEVER THE INPUT: true; the input reads as it did. -/
def headerStatesSpec : ChangeSpec := { name := "headerStates", fn := fun _ => fun
  | [d] => { results := [.lit (.bool true)], args := [d] }
  | _ => none }
def headerStatesRow : OpenClaim := { program := "ytjoejpkompaplaa", sum := "f21ae139b356c75b1b0c3dbf1f0da7281194a876a8d12fde05e316eb4d424f91", func := "windrow/windrowlaw02.HeaderStates", spec := "headerStates", apart := false }
def HeaderStatesSaid : Prop := headerStatesRow.holds Try.pinned (OpenSpec.ofChange headerStatesSpec)

/-- ITS FALSE NEIGHBOUR: 'it returns false'. Refute it at one input. -/
def headerStatesWrong : ChangeSpec := { name := "headerStates", fn := fun _ => fun
  | [d] => { results := [.lit (.bool false)], args := [d] }
  | _ => none }
def HeaderStatesWrongFalsely : Prop := headerStatesRow.holds Try.pinned (OpenSpec.ofChange headerStatesWrong)

/-- 'windrowlaw02.HeaderRounds': WHATEVER THE INPUT: true; the input reads as it did. -/
def headerRoundsSpec : ChangeSpec := { name := "headerRounds", fn := fun _ => fun
  | [d] => { results := [.lit (.bool true)], args := [d] }
  | _ => none }
def headerRoundsRow : OpenClaim := { program := "ytjoejpkompaplaa", sum := "f21ae139b356c75b1b0c3dbf1f0da7281194a876a8d12fde05e316eb4d424f91", func := "windrow/windrowlaw02.HeaderRounds", spec := "headerRounds", apart := false }
def HeaderRoundsSaid : Prop := headerRoundsRow.holds Try.pinned (OpenSpec.ofChange headerRoundsSpec)

/-- ITS FALSE NEIGHBOUR: 'it returns false'. Refute it at one input. -/
def headerRoundsWrong : ChangeSpec := { name := "headerRounds", fn := fun _ => fun
  | [d] => { results := [.lit (.bool false)], args := [d] }
  | _ => none }
def HeaderRoundsWrongFalsely : Prop := headerRoundsRow.holds Try.pinned (OpenSpec.ofChange headerRoundsWrong)

/-- 'windrowlaw02.HeaderEntries': WHATEVER THE INPUT: true; the input reads as it did. -/
def headerEntriesSpec : ChangeSpec := { name := "headerEntries", fn := fun _ => fun
  | [d1, d2] => { results := [.lit (.bool true)], args := [d1, d2] }
  | _ => none }
def headerEntriesRow : OpenClaim := { program := "ytjoejpkompaplaa", sum := "f21ae139b356c75b1b0c3dbf1f0da7281194a876a8d12fde05e316eb4d424f91", func := "windrow/windrowlaw02.HeaderEntries", spec := "headerEntries", apart := false }
def HeaderEntriesSaid : Prop := headerEntriesRow.holds Try.pinned (OpenSpec.ofChange headerEntriesSpec)

/-- ITS FALSE NEIGHBOUR: 'it returns false'. Refute it at one input. -/
def headerEntriesWrong : ChangeSpec := { name := "headerEntries", fn := fun _ => fun
  | [d1, d2] => { results := [.lit (.bool false)], args := [d1, d2] }
  | _ => none }
def HeaderEntriesWrongFalsely : Prop := headerEntriesRow.holds Try.pinned (OpenSpec.ofChange headerEntriesWrong)

/-- 'windrowlaw02.HeaderBack': WHATEVER THE INPUT: true; the input reads as it did. -/
def headerBackSpec : ChangeSpec := { name := "headerBack", fn := fun _ => fun
  | [d1, d2, d3] => { results := [.lit (.bool true)], args := [d1, d2, d3] }
  | _ => none }
def headerBackRow : OpenClaim := { program := "ytjoejpkompaplaa", sum := "f21ae139b356c75b1b0c3dbf1f0da7281194a876a8d12fde05e316eb4d424f91", func := "windrow/windrowlaw02.HeaderBack", spec := "headerBack", apart := false }
def HeaderBackSaid : Prop := headerBackRow.holds Try.pinned (OpenSpec.ofChange headerBackSpec)

/-- ITS FALSE NEIGHBOUR: 'it returns false'. Refute it at one input. -/
def headerBackWrong : ChangeSpec := { name := "headerBack", fn := fun _ => fun
  | [d1, d2, d3] => { results := [.lit (.bool false)], args := [d1, d2, d3] }
  | _ => none }
def HeaderBackWrongFalsely : Prop := headerBackRow.holds Try.pinned (OpenSpec.ofChange headerBackWrong)

/- THE SECOND FORM. 'bulk': how many values and letters a reading holds, each counted each time it is reached (what is shared counts as often as it is met; a slice's spare places count too). A statement '..UptoSaid' is the law's where the arguments, and the package variables that the reading takes, are together of bulk at most 1048576: NARROWER than '..Said'. Prove '..Said' where nothing that the law and all that it calls make is longer than what came in: it says more and counts as full. Else prove '..UptoSaid'. A law counts once. -/
mutual
def uptoBulk {H : Type} : DataW H → Nat
  | .lit (.string bytes) => bytes.length + 1
  | .lit _ => 1
  | .nil => 1
  | .ptr d => uptoBulk d + 1
  | .slice elems spare => uptoBulkAll elems + uptoBulkAll spare + 1
  | .agg parts => uptoBulkAll parts + 1
  | .iface _ d => uptoBulk d + 1
  | .map entries => uptoBulkEntries entries + 1
  | .held _ => 1
def uptoBulkAll {H : Type} : List (DataW H) → Nat
  | [] => 0
  | d :: r => uptoBulk d + uptoBulkAll r
def uptoBulkEntries {H : Type} : List (Lit × DataW H) → Nat
  | [] => 0
  | x :: r => uptoBulkEntry x + uptoBulkEntries r
def uptoBulkEntry {H : Type} : Lit × DataW H → Nat
  | (.string bytes, d) => bytes.length + uptoBulk d + 1
  | (_, d) => uptoBulk d + 1
 end
def uptoSmall : (H : Type) → List (DataW H) → Bool := fun _ ds => decide (uptoBulkAll ds ≤ 1048576)
def OpenSpec.upto (s : _root_.Go.ChangeSpec) : _root_.Go.OpenSpec := { _root_.Go.OpenSpec.ofChange s with cond := some uptoSmall }

/-- 'windrowlaw02.HeaderUnlike', WHERE WHAT IT READS IS OF BULK AT MOST 1048576: true; the input reads as it did. -/
def headerUnlikeUptoRow : OpenClaim := { program := "ytjoejpkompaplaa", sum := "f21ae139b356c75b1b0c3dbf1f0da7281194a876a8d12fde05e316eb4d424f91", func := "windrow/windrowlaw02.HeaderUnlike", spec := "headerUnlike", apart := false, narrowed := true }
def HeaderUnlikeUptoSaid : Prop := headerUnlikeUptoRow.holds Try.pinned (OpenSpec.upto headerUnlikeSpec)

/-- 'windrowlaw02.HeaderHeads', WHERE WHAT IT READS IS OF BULK AT MOST 1048576: true; the input reads as it did. -/
def headerHeadsUptoRow : OpenClaim := { program := "ytjoejpkompaplaa", sum := "f21ae139b356c75b1b0c3dbf1f0da7281194a876a8d12fde05e316eb4d424f91", func := "windrow/windrowlaw02.HeaderHeads", spec := "headerHeads", apart := false, narrowed := true }
def HeaderHeadsUptoSaid : Prop := headerHeadsUptoRow.holds Try.pinned (OpenSpec.upto headerHeadsSpec)

/-- 'windrowlaw02.HeaderStates', WHERE WHAT IT READS IS OF BULK AT MOST 1048576: true; the input reads as it did. -/
def headerStatesUptoRow : OpenClaim := { program := "ytjoejpkompaplaa", sum := "f21ae139b356c75b1b0c3dbf1f0da7281194a876a8d12fde05e316eb4d424f91", func := "windrow/windrowlaw02.HeaderStates", spec := "headerStates", apart := false, narrowed := true }
def HeaderStatesUptoSaid : Prop := headerStatesUptoRow.holds Try.pinned (OpenSpec.upto headerStatesSpec)

/-- 'windrowlaw02.HeaderRounds', WHERE WHAT IT READS IS OF BULK AT MOST 1048576: true; the input reads as it did. -/
def headerRoundsUptoRow : OpenClaim := { program := "ytjoejpkompaplaa", sum := "f21ae139b356c75b1b0c3dbf1f0da7281194a876a8d12fde05e316eb4d424f91", func := "windrow/windrowlaw02.HeaderRounds", spec := "headerRounds", apart := false, narrowed := true }
def HeaderRoundsUptoSaid : Prop := headerRoundsUptoRow.holds Try.pinned (OpenSpec.upto headerRoundsSpec)

/-- 'windrowlaw02.HeaderEntries', WHERE WHAT IT READS IS OF BULK AT MOST 1048576: true; the input reads as it did. -/
def headerEntriesUptoRow : OpenClaim := { program := "ytjoejpkompaplaa", sum := "f21ae139b356c75b1b0c3dbf1f0da7281194a876a8d12fde05e316eb4d424f91", func := "windrow/windrowlaw02.HeaderEntries", spec := "headerEntries", apart := false, narrowed := true }
def HeaderEntriesUptoSaid : Prop := headerEntriesUptoRow.holds Try.pinned (OpenSpec.upto headerEntriesSpec)

/-- 'windrowlaw02.HeaderBack', WHERE WHAT IT READS IS OF BULK AT MOST 1048576: true; the input reads as it did. -/
def headerBackUptoRow : OpenClaim := { program := "ytjoejpkompaplaa", sum := "f21ae139b356c75b1b0c3dbf1f0da7281194a876a8d12fde05e316eb4d424f91", func := "windrow/windrowlaw02.HeaderBack", spec := "headerBack", apart := false, narrowed := true }
def HeaderBackUptoSaid : Prop := headerBackUptoRow.holds Try.pinned (OpenSpec.upto headerBackSpec)

end Rows
end Go.Proofs.Ytjoejpkompaplaa
