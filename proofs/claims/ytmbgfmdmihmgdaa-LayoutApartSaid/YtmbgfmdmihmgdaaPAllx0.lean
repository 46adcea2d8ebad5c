-- Written by a program of the prover's (mp.py). Not trusted: Lean checks it.
import Derived.Test.YtmbgfmdmihmgdaaProg
import Derived.Below
import Derived.Deep.Draws
import Derived.Deep.AppendLies
import Derived.Maps.AppendAt
import Derived.OwnWalk
import Derived.Laws.BytesArg
import Derived.Laws.MakeOwn
import Derived.Laws.OwnMore
import Derived.Deep.OwnRows
import Derived.Tactics
import Derived.Lib.ConvBytes
import Derived.Laws.Slices
import Derived.WalkKit
import Derived.KernelRfl
import Derived.RowKit3
import Derived.Deep.LoopGhost
import Derived.Deep.QuietTactic
import Derived.BigQuiet
import Derived.WideLaws
import Derived.Deep.DeepCutAuto
import Derived.Deep.CutBlock
import Derived.Deep.RegionHeld3
import Derived.Laws.Rows
import Derived.Lib.AppendStr
import Derived.ArgAppend
import Derived.Laws.IdiomCopy
import Derived.OrdersHeld
import Derived.Laws.BitsLemmas
import Derived.RowKit
import Derived.Test.YtmbgfmdmihmgdaaWWords
import Derived.Test.YtmbgfmdmihmgdaaWLast
import Derived.Test.YtmbgfmdmihmgdaaWTab
import Derived.Test.YtmbgfmdmihmgdaaWFour
import Derived.Test.YtmbgfmdmihmgdaaWQPut
import Derived.Test.YtmbgfmdmihmgdaaWApart
import Derived.Test.YtmbgfmdmihmgdaaWArr
import Derived.Test.YtmbgfmdmihmgdaaWZeros
import Derived.Test.YtmbgfmdmihmgdaaWFoot
import Derived.Test.YtmbgfmdmihmgdaaWKept
import Derived.Test.YtmbgfmdmihmgdaaWShare
import Derived.Test.YtmbgfmdmihmgdaaWN
import Derived.Test.YtmbgfmdmihmgdaaWFootNe
import Derived.Test.YtmbgfmdmihmgdaaWAt
import Derived.Test.YtmbgfmdmihmgdaaWEqStruct
import Derived.Test.YtmbgfmdmihmgdaaWRepsOne
import Derived.Test.YtmbgfmdmihmgdaaWInv
import Derived.Test.YtmbgfmdmihmgdaaWInvWords
import Derived.Test.YtmbgfmdmihmgdaaWGuard
import Derived.Test.YtmbgfmdmihmgdaaWNEv
import Derived.Test.YtmbgfmdmihmgdaaWMore
namespace Go.Proofs.Ytmbgfmdmihmgdaa.PAll
open Go.RowKit Go.Proofs.YtmbgfmdmihmgdaaW.PrintWords Go.Proofs.YtmbgfmdmihmgdaaW.PrintLast Go.Proofs.YtmbgfmdmihmgdaaW.PrintMore
attribute [local go_sem] max2_int min2_int max_two min_two max_three min_three max_four min_four   -- for this text's walks alone
set_option linter.unusedVariables false
set_option linter.unusedSimpArgs false



def errW : Option Int → Value
  | none => .nilIface
  | some c => .iface 0 (.int .i64 c)
theorem errW_none : errW none = .nilIface := rfl
theorem errW_some (c : Int) : errW (some c) = .iface 0 (.int .i64 c) := rfl

theorem info3 : (Try.prog.info? 3).map (fun i => (i.zero, i.size, i.bytes)) = some (some (.int .i64 0), 1, 8) := by kernel_rfl
-- the values' own types

end Go.Proofs.Ytmbgfmdmihmgdaa.PAll
