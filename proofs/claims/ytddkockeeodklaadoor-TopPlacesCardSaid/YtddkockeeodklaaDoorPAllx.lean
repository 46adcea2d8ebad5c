-- Written by a program of the prover's (mp.py). Not trusted: Lean checks it.
import Derived.Test.YtddkockeeodklaaDoorPAllx0
import Derived.Test.YtddkockeeodklaaDoorPAllx1
import Derived.Test.YtddkockeeodklaaDoorPAllx2
import Derived.Test.YtddkockeeodklaaDoorPAllx3
import Derived.Test.YtddkockeeodklaaDoorPAllx4
namespace Go.Proofs.YtddkockeeodklaaDoor.PAll
open Go.RowKit Go.Proofs.YtddkockeeodklaaDoorW.PrintWords Go.Proofs.YtddkockeeodklaaDoorW.PrintLast Go.Proofs.YtddkockeeodklaaDoorW.PrintMore
attribute [local go_sem] max2_int min2_int max_two min_two max_three min_three max_four min_four   -- for this text's walks alone
set_option linter.unusedVariables false
set_option linter.unusedSimpArgs false

end Go.Proofs.YtddkockeeodklaaDoor.PAll
