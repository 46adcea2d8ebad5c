-- Written by a program of the prover's (mp.py). Not trusted: Lean checks it.
import Derived.Test.YtddkockeeodklaaPAllx0
import Derived.Test.YtddkockeeodklaaPAllx1
import Derived.Test.YtddkockeeodklaaPAllx2
import Derived.Test.YtddkockeeodklaaPAllx3
namespace Go.Proofs.Ytddkockeeodklaa.PAll
open Go.RowKit Go.Proofs.YtddkockeeodklaaW.PrintWords Go.Proofs.YtddkockeeodklaaW.PrintLast Go.Proofs.YtddkockeeodklaaW.PrintMore
attribute [local go_sem] max2_int min2_int max_two min_two max_three min_three max_four min_four   -- for this text's walks alone
set_option linter.unusedVariables false
set_option linter.unusedSimpArgs false

end Go.Proofs.Ytddkockeeodklaa.PAll
