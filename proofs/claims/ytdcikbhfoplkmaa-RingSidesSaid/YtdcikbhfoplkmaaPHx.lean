-- Written by a program of the prover's (mp.py). Not trusted: Lean checks it.
import Derived.Test.YtdcikbhfoplkmaaPHx0
import Derived.Test.YtdcikbhfoplkmaaPHx1
import Derived.Test.YtdcikbhfoplkmaaPHx2
import Derived.Test.YtdcikbhfoplkmaaPHx3
import Derived.Test.YtdcikbhfoplkmaaPHx4
import Derived.Test.YtdcikbhfoplkmaaPHx5
import Derived.Test.YtdcikbhfoplkmaaPHx6
import Derived.Test.YtdcikbhfoplkmaaPHx7
import Derived.Test.YtdcikbhfoplkmaaPHx8
namespace Go.Proofs.Ytdcikbhfoplkmaa.PH
open Go.RowKit Go.Proofs.YtdcikbhfoplkmaaW.PrintWords Go.Proofs.YtdcikbhfoplkmaaW.PrintLast Go.Proofs.YtdcikbhfoplkmaaW.PrintMore
attribute [local go_sem] max2_int min2_int max_two min_two max_three min_three max_four min_four   -- for this text's walks alone
set_option linter.unusedVariables false
set_option linter.unusedSimpArgs false

end Go.Proofs.Ytdcikbhfoplkmaa.PH
