/-
  No cell of these rows narrows 'for every input' (looked for: loops, veiled, ifaces, maps, wideKeys, modest, calm, conditions, laid).
  DERIVED. THE GIVEN ROWS OF THIS SEAT. 6 by the template 'for every input the law returns true; each argument reads behind the call as it read before'; 0 by the template 'total and deterministic' (their statements: YtneppenmhbjfkaaTotals.lean).
  GIVEN WITH THE SEED: the statements are not yours to turn. If you find one false, say at which input.
  Laid BY PROGRAM, IN A SANDBOX (cutbox-rows.mjs): the forced cells as the released guide's own fill.sh prints them over the translation 22cf7eab1b8bae38… (all of the seat's roots in one cut). By AI agents, Wed Nov 11 2026. No macro, syntax, notation, axiom, sorry.
-/
import Derived.Test.YtneppenmhbjfkaaChecked
import GoSem.Claim
import GoSem.ClaimJoined
import GoSem.ClaimMapViews
import Derived.JoinedTies
import Derived.KernelRfl
namespace Go.Proofs.Ytneppenmhbjfkaa
/- THE CELL 'sum', in the pinned program and in every row, IS THE sha256 OF THE DUMP (.gsa) THAT YtneppenmhbjfkaaProg.lean LOADS. Nothing in Lean hashes anything: it is a label: what it is worth is what the hold of that sum in a sandbox is worth. -/
noncomputable def Try.pinned : Pinned := { name := "ytneppenmhbjfkaa", sum := "22cf7eab1b8bae3848eee3df612172cbb46d10df7bc77e0fbac802b4dab86513", checked := Try.checked }
namespace Rows
def none {H : Type} : Left H := { results := [], args := [] }

/-- 'windrowlaw03.ArenaOthers': WHATEVER THE INPUT: true; the input reads as it did. -/
def arenaOthersSpec : ChangeSpec := { name := "arenaOthers", fn := fun _ => fun
  | [d1, d2] => { results := [.lit (.bool true)], args := [d1, d2] }
  | _ => none }
def arenaOthersRow : OpenClaim := { program := "ytneppenmhbjfkaa", sum := "22cf7eab1b8bae3848eee3df612172cbb46d10df7bc77e0fbac802b4dab86513", func := "windrow/windrowlaw03.ArenaOthers", spec := "arenaOthers", unfollowed := true, recurses := true, apart := false }
def ArenaOthersSaid : Prop := arenaOthersRow.holds Try.pinned (OpenSpec.ofChange arenaOthersSpec)

/-- ITS FALSE NEIGHBOUR: 'it returns false'. Refute it at one input. -/
def arenaOthersWrong : ChangeSpec := { name := "arenaOthers", fn := fun _ => fun
  | [d1, d2] => { results := [.lit (.bool false)], args := [d1, d2] }
  | _ => none }
def ArenaOthersWrongFalsely : Prop := arenaOthersRow.holds Try.pinned (OpenSpec.ofChange arenaOthersWrong)

/-- 'windrowlaw03.ArenaGrants': WHATEVER THE INPUT: true; the input reads as it did. -/
def arenaGrantsSpec : ChangeSpec := { name := "arenaGrants", fn := fun _ => fun
  | [d1, d2] => { results := [.lit (.bool true)], args := [d1, d2] }
  | _ => none }
def arenaGrantsRow : OpenClaim := { program := "ytneppenmhbjfkaa", sum := "22cf7eab1b8bae3848eee3df612172cbb46d10df7bc77e0fbac802b4dab86513", func := "windrow/windrowlaw03.ArenaGrants", spec := "arenaGrants", unfollowed := true, recurses := true, apart := false }
def ArenaGrantsSaid : Prop := arenaGrantsRow.holds Try.pinned (OpenSpec.ofChange arenaGrantsSpec)

/-- ITS FALSE NEIGHBOUR: 'it returns false'. Refute it at one input. -/
def arenaGrantsWrong : ChangeSpec := { name := "arenaGrants", fn := fun _ => fun
  | [d1, d2] => { results := [.lit (.bool false)], args := [d1, d2] }
  | _ => none }
def ArenaGrantsWrongFalsely : Prop := arenaGrantsRow.holds Try.pinned (OpenSpec.ofChange arenaGrantsWrong)

/-- 'windrowlaw03.ArenaReplays': WHATEVER THE INPUT: true; the input reads as it did. -/
def arenaReplaysSpec : ChangeSpec := { name := "arenaReplays", fn := fun _ => fun
  | [d1, d2] => { results := [.lit (.bool true)], args := [d1, d2] }
  | _ => none }
def arenaReplaysRow : OpenClaim := { program := "ytneppenmhbjfkaa", sum := "22cf7eab1b8bae3848eee3df612172cbb46d10df7bc77e0fbac802b4dab86513", func := "windrow/windrowlaw03.ArenaReplays", spec := "arenaReplays", unfollowed := true, recurses := true, apart := false }
def ArenaReplaysSaid : Prop := arenaReplaysRow.holds Try.pinned (OpenSpec.ofChange arenaReplaysSpec)

/-- ITS FALSE NEIGHBOUR: 'it returns false'. Refute it at one input. -/
def arenaReplaysWrong : ChangeSpec := { name := "arenaReplays", fn := fun _ => fun
  | [d1, d2] => { results := [.lit (.bool false)], args := [d1, d2] }
  | _ => none }
def ArenaReplaysWrongFalsely : Prop := arenaReplaysRow.holds Try.pinned (OpenSpec.ofChange arenaReplaysWrong)

/-- 'windrowlaw03.ArenaPorts': WHATEVER THE INPUT: true; the input reads as it did. -/
def arenaPortsSpec : ChangeSpec := { name := "arenaPorts", fn := fun _ => fun
  | [d] => { results := [.lit (.bool true)], args := [d] }
  | _ => none }
def arenaPortsRow : OpenClaim := { program := "ytneppenmhbjfkaa", sum := "22cf7eab1b8bae3848eee3df612172cbb46d10df7bc77e0fbac802b4dab86513", func := "windrow/windrowlaw03.ArenaPorts", spec := "arenaPorts", unfollowed := true, recurses := true, apart := false }
def ArenaPortsSaid : Prop := arenaPortsRow.holds Try.pinned (OpenSpec.ofChange arenaPortsSpec)

/-- ITS FALSE NEIGHBOUR: 'it returns false'. Refute it at one input. -/
def arenaPortsWrong : ChangeSpec := { name := "arenaPorts", fn := fun _ => fun
  | [d] => { results := [.lit (.bool false)], args := [d] }
  | _ => none }
def ArenaPortsWrongFalsely : Prop := arenaPortsRow.holds Try.pinned (OpenSpec.ofChange arenaPortsWrong)

/-- 'windrowlaw03.ArenaPlays': WHATEVER THE INPUT: true; the input reads as it did. -/
def arenaPlaysSpec : ChangeSpec := { name := "arenaPlays", fn := fun _ => fun
  | [d1, d2, d3] => { results := [.lit (.bool true)], args := [d1, d2, d3] }
  | _ => none }
def arenaPlaysRow : OpenClaim := { program := "ytneppenmhbjfkaa", sum := "22cf7eab1b8bae3848eee3df612172cbb46d10df7bc77e0fbac802b4dab86513", func := "windrow/windrowlaw03.ArenaPlays", spec := "arenaPlays", unfollowed := true, recurses := true, apart := false }
def ArenaPlaysSaid : Prop := arenaPlaysRow.holds Try.pinned (OpenSpec.ofChange arenaPlaysSpec)

/-- ITS FALSE NEIGHBOUR: 'it returns false'. Refute it at one input. -/
def arenaPlaysWrong : ChangeSpec := { name := "arenaPlays", fn := fun _ => fun
  | [d1, d2, d3] => { results := [.lit (.bool false)], args := [d1, d2, d3] }
  | _ => none }
def ArenaPlaysWrongFalsely : Prop := arenaPlaysRow.holds Try.pinned (OpenSpec.ofChange arenaPlaysWrong)

/-- 'windrowlaw03.ArenaSerial': WHATEVER THE INPUT: true; the input reads as it did. -/
def arenaSerialSpec : ChangeSpec := { name := "arenaSerial", fn := fun _ => fun
  | [d1, d2] => { results := [.lit (.bool true)], args := [d1, d2] }
  | _ => none }
def arenaSerialRow : OpenClaim := { program := "ytneppenmhbjfkaa", sum := "22cf7eab1b8bae3848eee3df612172cbb46d10df7bc77e0fbac802b4dab86513", func := "windrow/windrowlaw03.ArenaSerial", spec := "arenaSerial", unfollowed := true, recurses := true, apart := false }
def ArenaSerialSaid : Prop := arenaSerialRow.holds Try.pinned (OpenSpec.ofChange arenaSerialSpec)

/-- ITS FALSE NEIGHBOUR: 'it returns false'. Refute it at one input. -/
def arenaSerialWrong : ChangeSpec := { name := "arenaSerial", fn := fun _ => fun
  | [d1, d2] => { results := [.lit (.bool false)], args := [d1, d2] }
  | _ => none }
def ArenaSerialWrongFalsely : Prop := arenaSerialRow.holds Try.pinned (OpenSpec.ofChange arenaSerialWrong)

/- THE SECOND FORM. 'bulk': how many values and letters a reading holds, each counted each time it is reached (what is shared counts as often as it is met; a slice's spare places count too). A statement '..UptoSaid' is the law's where the arguments, and the package variables that the reading takes, are together of bulk at most 1048576: NARROWER than '..Said'. Prove '..Said' where nothing that the law and all that it calls make is longer than what came in: it says more and counts as full. Else prove '..UptoSaid'. A law counts once. -/
mutual
def uptoBulk {H : Type} : DataW H → Nat
  | .lit (.string bytes) => bytes.length + 1
  | .lit _ => 1
  | .nil => 1
  | .ptr d => uptoBulk d + 1
  | .slice elems spare => uptoBulkAll elems + uptoBulkAll spare + 1
  | .agg parts => uptoBulkAll parts + 1
  | .iface _ d => uptoBulk d + 1
  | .map entries => uptoBulkEntries entries + 1
  | .held _ => 1
def uptoBulkAll {H : Type} : List (DataW H) → Nat
  | [] => 0
  | d :: r => uptoBulk d + uptoBulkAll r
def uptoBulkEntries {H : Type} : List (Lit × DataW H) → Nat
  | [] => 0
  | x :: r => uptoBulkEntry x + uptoBulkEntries r
def uptoBulkEntry {H : Type} : Lit × DataW H → Nat
  | (.string bytes, d) => bytes.length + uptoBulk d + 1
  | (_, d) => uptoBulk d + 1
 end
def uptoSmall : (H : Type) → List (DataW H) → Bool := fun _ ds => decide (uptoBulkAll ds ≤ 1048576)
def OpenSpec.upto (s : _root_.Go.ChangeSpec) : _root_.Go.OpenSpec := { _root_.Go.OpenSpec.ofChange s with cond := some uptoSmall }

/-- 'windrowlaw03.ArenaOthers', WHERE WHAT IT READS IS OF BULK AT MOST 1048576: true; the input reads as it did. -/
def arenaOthersUptoRow : OpenClaim := { program := "ytneppenmhbjfkaa", sum := "22cf7eab1b8bae3848eee3df612172cbb46d10df7bc77e0fbac802b4dab86513", func := "windrow/windrowlaw03.ArenaOthers", spec := "arenaOthers", unfollowed := true, recurses := true, apart := false, narrowed := true }
def ArenaOthersUptoSaid : Prop := arenaOthersUptoRow.holds Try.pinned (OpenSpec.upto arenaOthersSpec)

/-- 'windrowlaw03.ArenaGrants', WHERE WHAT IT READS IS OF BULK AT MOST 1048576: true; the input reads as it did. -/
def arenaGrantsUptoRow : OpenClaim := { program := "ytneppenmhbjfkaa", sum := "22cf7eab1b8bae3848eee3df612172cbb46d10df7bc77e0fbac802b4dab86513", func := "windrow/windrowlaw03.ArenaGrants", spec := "arenaGrants", unfollowed := true, recurses := true, apart := false, narrowed := true }
def ArenaGrantsUptoSaid : Prop := arenaGrantsUptoRow.holds Try.pinned (OpenSpec.upto arenaGrantsSpec)

/-- 'windrowlaw03.ArenaReplays', WHERE WHAT IT READS IS OF BULK AT MOST 1048576: true; the input reads as it did. -/
def arenaReplaysUptoRow : OpenClaim := { program := "ytneppenmhbjfkaa", sum := "22cf7eab1b8bae3848eee3df612172cbb46d10df7bc77e0fbac802b4dab86513", func := "windrow/windrowlaw03.ArenaReplays", spec := "arenaReplays", unfollowed := true, recurses := true, apart := false, narrowed := true }
def ArenaReplaysUptoSaid : Prop := arenaReplaysUptoRow.holds Try.pinned (OpenSpec.upto arenaReplaysSpec)

/-- 'windrowlaw03.ArenaPorts', WHERE WHAT IT READS IS OF BULK AT MOST 1048576: true; the input reads as it did. -/
def arenaPortsUptoRow : OpenClaim := { program := "ytneppenmhbjfkaa", sum := "22cf7eab1b8bae3848eee3df612172cbb46d10df7bc77e0fbac802b4dab86513", func := "windrow/windrowlaw03.ArenaPorts", spec := "arenaPorts", unfollowed := true, recurses := true, apart := false, narrowed := true }
def ArenaPortsUptoSaid : Prop := arenaPortsUptoRow.holds Try.pinned (OpenSpec.upto arenaPortsSpec)

/-- 'windrowlaw03.ArenaPlays', WHERE WHAT IT READS IS OF BULK AT MOST 1048576: true; the input reads as it did. -/
def arenaPlaysUptoRow : OpenClaim := { program := "ytneppenmhbjfkaa", sum := "22cf7eab1b8bae3848eee3df612172cbb46d10df7bc77e0fbac802b4dab86513", func := "windrow/windrowlaw03.ArenaPlays", spec := "arenaPlays", unfollowed := true, recurses := true, apart := false, narrowed := true }
def ArenaPlaysUptoSaid : Prop := arenaPlaysUptoRow.holds Try.pinned (OpenSpec.upto arenaPlaysSpec)

/-- 'windrowlaw03.ArenaSerial', WHERE WHAT IT READS IS OF BULK AT MOST 1048576: true; the input reads as it did. -/
def arenaSerialUptoRow : OpenClaim := { program := "ytneppenmhbjfkaa", sum := "22cf7eab1b8bae3848eee3df612172cbb46d10df7bc77e0fbac802b4dab86513", func := "windrow/windrowlaw03.ArenaSerial", spec := "arenaSerial", unfollowed := true, recurses := true, apart := false, narrowed := true }
def ArenaSerialUptoSaid : Prop := arenaSerialUptoRow.holds Try.pinned (OpenSpec.upto arenaSerialSpec)

end Rows
end Go.Proofs.Ytneppenmhbjfkaa
