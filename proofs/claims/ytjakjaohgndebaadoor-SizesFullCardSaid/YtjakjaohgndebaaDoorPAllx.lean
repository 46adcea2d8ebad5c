-- Written by a program of the prover's (mp.py). Not trusted: Lean checks it.
import Derived.Test.YtjakjaohgndebaaDoorPAllx0
import Derived.Test.YtjakjaohgndebaaDoorPAllx1
import Derived.Test.YtjakjaohgndebaaDoorPAllx2
import Derived.Test.YtjakjaohgndebaaDoorPAllx3
import Derived.Test.YtjakjaohgndebaaDoorPAllx4
import Derived.Test.YtjakjaohgndebaaDoorPAllx5
import Derived.Test.YtjakjaohgndebaaDoorPAllx6
namespace Go.Proofs.YtjakjaohgndebaaDoor.PAll
open Go.RowKit Go.Proofs.YtjakjaohgndebaaDoorW.PrintWords Go.Proofs.YtjakjaohgndebaaDoorW.PrintLast Go.Proofs.YtjakjaohgndebaaDoorW.PrintMore
attribute [local go_sem] max2_int min2_int max_two min_two max_three min_three max_four min_four   -- for this text's walks alone
set_option linter.unusedVariables false
set_option linter.unusedSimpArgs false

end Go.Proofs.YtjakjaohgndebaaDoor.PAll
