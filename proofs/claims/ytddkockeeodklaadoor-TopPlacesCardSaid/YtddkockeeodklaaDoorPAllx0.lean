-- Written by a program of the prover's (mp.py). Not trusted: Lean checks it.
import Derived.Test.YtddkockeeodklaaDoorProg
import Derived.Below
import Derived.Deep.Draws
import Derived.Deep.AppendLies
import Derived.Maps.AppendAt
import Derived.OwnWalk
import Derived.Laws.BytesArg
import Derived.Laws.MakeOwn
import Derived.Laws.OwnMore
import Derived.Deep.OwnRows
import Derived.Tactics
import Derived.Lib.ConvBytes
import Derived.Laws.Slices
import Derived.WalkKit
import Derived.KernelRfl
import Derived.RowKit3
import Derived.Deep.LoopGhost
import Derived.Deep.QuietTactic
import Derived.BigQuiet
import Derived.WideLaws
import Derived.Deep.DeepCutAuto
import Derived.Deep.CutBlock
import Derived.Deep.RegionHeld3
import Derived.Laws.Rows
import Derived.Lib.AppendStr
import Derived.ArgAppend
import Derived.Laws.IdiomCopy
import Derived.OrdersHeld
import Derived.Laws.BitsLemmas
import Derived.RowKit
import Derived.Test.YtddkockeeodklaaDoorGiv
import Derived.Test.YtddkockeeodklaaDoorWWords
import Derived.Test.YtddkockeeodklaaDoorWLast
import Derived.Test.YtddkockeeodklaaDoorWTab
import Derived.Test.YtddkockeeodklaaDoorWFour
import Derived.Test.YtddkockeeodklaaDoorWQPut
import Derived.Test.YtddkockeeodklaaDoorWApart
import Derived.Test.YtddkockeeodklaaDoorWArr
import Derived.Test.YtddkockeeodklaaDoorWZeros
import Derived.Test.YtddkockeeodklaaDoorWFoot
import Derived.Test.YtddkockeeodklaaDoorWKept
import Derived.Test.YtddkockeeodklaaDoorWShare
import Derived.Test.YtddkockeeodklaaDoorWN
import Derived.Test.YtddkockeeodklaaDoorWFootNe
import Derived.Test.YtddkockeeodklaaDoorWAt
import Derived.Test.YtddkockeeodklaaDoorWEqStruct
import Derived.Test.YtddkockeeodklaaDoorWRepsOne
import Derived.Test.YtddkockeeodklaaDoorWInv
import Derived.Test.YtddkockeeodklaaDoorWInvWords
import Derived.Test.YtddkockeeodklaaDoorWGuard
import Derived.Test.YtddkockeeodklaaDoorWNEv
import Derived.Test.YtddkockeeodklaaDoorWMore
namespace Go.Proofs.YtddkockeeodklaaDoor.PAll
open Go.RowKit Go.Proofs.YtddkockeeodklaaDoorW.PrintWords Go.Proofs.YtddkockeeodklaaDoorW.PrintLast Go.Proofs.YtddkockeeodklaaDoorW.PrintMore
attribute [local go_sem] max2_int min2_int max_two min_two max_three min_three max_four min_four   -- for this text's walks alone
set_option linter.unusedVariables false
set_option linter.unusedSimpArgs false



def errW : Option Int → Value
  | none => .nilIface
  | some c => .iface 0 (.int .i64 c)
theorem errW_none : errW none = .nilIface := rfl
theorem errW_some (c : Int) : errW (some c) = .iface 0 (.int .i64 c) := rfl

theorem info3 : (Tryd.prog.info? 3).map (fun i => (i.zero, i.size, i.bytes)) = some (some (.int .i64 0), 1, 8) := by kernel_rfl
-- the values' own types

end Go.Proofs.YtddkockeeodklaaDoor.PAll
