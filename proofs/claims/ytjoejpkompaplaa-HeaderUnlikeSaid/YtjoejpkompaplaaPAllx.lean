-- Written by a program of the prover's (mp.py). Not trusted: Lean checks it.
import Derived.Test.YtjoejpkompaplaaPAllx0
import Derived.Test.YtjoejpkompaplaaPAllx1
import Derived.Test.YtjoejpkompaplaaPAllx2
import Derived.Test.YtjoejpkompaplaaPAllx3
namespace Go.Proofs.Ytjoejpkompaplaa.PAll
open Go.RowKit Go.Proofs.YtjoejpkompaplaaW.PrintWords Go.Proofs.YtjoejpkompaplaaW.PrintLast Go.Proofs.YtjoejpkompaplaaW.PrintMore
attribute [local go_sem] max2_int min2_int max_two min_two max_three min_three max_four min_four   -- for this text's walks alone
set_option linter.unusedVariables false
set_option linter.unusedSimpArgs false

end Go.Proofs.Ytjoejpkompaplaa.PAll
