-- Written by a program of the prover's (mp.py). Not trusted: Lean checks it.
import Derived.Test.YticoepbjpeepcaaDoorProg
import Derived.Below
import Derived.Deep.Draws
import Derived.Deep.AppendLies
import Derived.Maps.AppendAt
import Derived.OwnWalk
import Derived.Laws.BytesArg
import Derived.Laws.MakeOwn
import Derived.Laws.OwnMore
import Derived.Deep.OwnRows
import Derived.Tactics
import Derived.Lib.ConvBytes
import Derived.Laws.Slices
import Derived.WalkKit
import Derived.KernelRfl
import Derived.RowKit3
import Derived.Deep.LoopGhost
import Derived.Deep.QuietTactic
import Derived.BigQuiet
import Derived.WideLaws
import Derived.Deep.DeepCutAuto
import Derived.Deep.CutBlock
import Derived.Deep.RegionHeld3
import Derived.Laws.Rows
import Derived.Lib.AppendStr
import Derived.ArgAppend
import Derived.Laws.IdiomCopy
import Derived.OrdersHeld
import Derived.Laws.BitsLemmas
import Derived.RowKit
import Derived.Test.YticoepbjpeepcaaDoorGiv
import Derived.Test.YticoepbjpeepcaaDoorWWords
import Derived.Test.YticoepbjpeepcaaDoorWLast
import Derived.Test.YticoepbjpeepcaaDoorWTab
import Derived.Test.YticoepbjpeepcaaDoorWFour
import Derived.Test.YticoepbjpeepcaaDoorWQPut
import Derived.Test.YticoepbjpeepcaaDoorWApart
import Derived.Test.YticoepbjpeepcaaDoorWArr
import Derived.Test.YticoepbjpeepcaaDoorWZeros
import Derived.Test.YticoepbjpeepcaaDoorWFoot
import Derived.Test.YticoepbjpeepcaaDoorWKept
import Derived.Test.YticoepbjpeepcaaDoorWShare
import Derived.Test.YticoepbjpeepcaaDoorWN
import Derived.Test.YticoepbjpeepcaaDoorWFootNe
import Derived.Test.YticoepbjpeepcaaDoorWAt
import Derived.Test.YticoepbjpeepcaaDoorWEqStruct
import Derived.Test.YticoepbjpeepcaaDoorWRepsOne
import Derived.Test.YticoepbjpeepcaaDoorWInv
import Derived.Test.YticoepbjpeepcaaDoorWInvWords
import Derived.Test.YticoepbjpeepcaaDoorWGuard
import Derived.Test.YticoepbjpeepcaaDoorWNEv
import Derived.Test.YticoepbjpeepcaaDoorWMore
namespace Go.Proofs.YticoepbjpeepcaaDoor.PAll
open Go.RowKit Go.Proofs.YticoepbjpeepcaaDoorW.PrintWords Go.Proofs.YticoepbjpeepcaaDoorW.PrintLast Go.Proofs.YticoepbjpeepcaaDoorW.PrintMore
attribute [local go_sem] max2_int min2_int max_two min_two max_three min_three max_four min_four   -- for this text's walks alone
set_option linter.unusedVariables false
set_option linter.unusedSimpArgs false



def errW : Option Int → Value
  | none => .nilIface
  | some c => .iface 0 (.int .i64 c)
theorem errW_none : errW none = .nilIface := rfl
theorem errW_some (c : Int) : errW (some c) = .iface 0 (.int .i64 c) := rfl

theorem info3 : (Tryd.prog.info? 3).map (fun i => (i.zero, i.size, i.bytes)) = some (some (.int .i64 0), 1, 8) := by kernel_rfl
theorem info34 : (Tryd.prog.info? 34).map (fun i => (i.zero, i.size, i.bytes)) = some (some (.int .u64 0), 1, 8) := by kernel_rfl
-- the values' own types

end Go.Proofs.YticoepbjpeepcaaDoor.PAll
