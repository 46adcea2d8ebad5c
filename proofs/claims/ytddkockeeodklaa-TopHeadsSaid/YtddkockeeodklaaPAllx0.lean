-- Written by a program of the prover's (mp.py). Not trusted: Lean checks it.
import Derived.Test.YtddkockeeodklaaProg
import Derived.Below
import Derived.Deep.Draws
import Derived.Deep.AppendLies
import Derived.Maps.AppendAt
import Derived.OwnWalk
import Derived.Laws.BytesArg
import Derived.Laws.MakeOwn
import Derived.Laws.OwnMore
import Derived.Deep.OwnRows
import Derived.Tactics
import Derived.Lib.ConvBytes
import Derived.Laws.Slices
import Derived.WalkKit
import Derived.KernelRfl
import Derived.RowKit3
import Derived.Deep.LoopGhost
import Derived.Deep.QuietTactic
import Derived.BigQuiet
import Derived.WideLaws
import Derived.Deep.DeepCutAuto
import Derived.Deep.CutBlock
import Derived.Deep.RegionHeld3
import Derived.Laws.Rows
import Derived.Lib.AppendStr
import Derived.ArgAppend
import Derived.Laws.IdiomCopy
import Derived.OrdersHeld
import Derived.Laws.BitsLemmas
import Derived.RowKit
import Derived.Test.YtddkockeeodklaaWWords
import Derived.Test.YtddkockeeodklaaWLast
import Derived.Test.YtddkockeeodklaaWTab
import Derived.Test.YtddkockeeodklaaWFour
import Derived.Test.YtddkockeeodklaaWQPut
import Derived.Test.YtddkockeeodklaaWApart
import Derived.Test.YtddkockeeodklaaWArr
import Derived.Test.YtddkockeeodklaaWZeros
import Derived.Test.YtddkockeeodklaaWFoot
import Derived.Test.YtddkockeeodklaaWKept
import Derived.Test.YtddkockeeodklaaWShare
import Derived.Test.YtddkockeeodklaaWN
import Derived.Test.YtddkockeeodklaaWFootNe
import Derived.Test.YtddkockeeodklaaWAt
import Derived.Test.YtddkockeeodklaaWEqStruct
import Derived.Test.YtddkockeeodklaaWRepsOne
import Derived.Test.YtddkockeeodklaaWInv
import Derived.Test.YtddkockeeodklaaWInvWords
import Derived.Test.YtddkockeeodklaaWGuard
import Derived.Test.YtddkockeeodklaaWNEv
import Derived.Test.YtddkockeeodklaaWMore
namespace Go.Proofs.Ytddkockeeodklaa.PAll
open Go.RowKit Go.Proofs.YtddkockeeodklaaW.PrintWords Go.Proofs.YtddkockeeodklaaW.PrintLast Go.Proofs.YtddkockeeodklaaW.PrintMore
attribute [local go_sem] max2_int min2_int max_two min_two max_three min_three max_four min_four   -- for this text's walks alone
set_option linter.unusedVariables false
set_option linter.unusedSimpArgs false



def errW : Option Int → Value
  | none => .nilIface
  | some c => .iface 0 (.int .i64 c)
theorem errW_none : errW none = .nilIface := rfl
theorem errW_some (c : Int) : errW (some c) = .iface 0 (.int .i64 c) := rfl

theorem info3 : (Try.prog.info? 3).map (fun i => (i.zero, i.size, i.bytes)) = some (some (.int .i64 0), 1, 8) := by kernel_rfl
theorem info26 : (Try.prog.info? 26).map (fun i => (i.zero, i.size, i.bytes)) = some (some (.int .u64 0), 1, 8) := by kernel_rfl
-- the values' own types

end Go.Proofs.Ytddkockeeodklaa.PAll
