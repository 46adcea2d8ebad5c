-- Written by a program of the prover's (mp.py). Not trusted: Lean checks it.
import Derived.Test.YtahmhhbpdgopjaaDoorPAllx0
import Derived.Test.YtahmhhbpdgopjaaDoorPAllx1
import Derived.Test.YtahmhhbpdgopjaaDoorPAllx2
import Derived.Test.YtahmhhbpdgopjaaDoorPAllx3
import Derived.Test.YtahmhhbpdgopjaaDoorPAllx4
import Derived.Test.YtahmhhbpdgopjaaDoorPAllx5
import Derived.Test.YtahmhhbpdgopjaaDoorPAllx6
import Derived.Test.YtahmhhbpdgopjaaDoorPAllx7
namespace Go.Proofs.YtahmhhbpdgopjaaDoor.PAll
open Go.RowKit Go.Proofs.YtahmhhbpdgopjaaDoorW.PrintWords Go.Proofs.YtahmhhbpdgopjaaDoorW.PrintLast Go.Proofs.YtahmhhbpdgopjaaDoorW.PrintMore
attribute [local go_sem] max2_int min2_int max_two min_two max_three min_three max_four min_four   -- for this text's walks alone
set_option linter.unusedVariables false
set_option linter.unusedSimpArgs false

end Go.Proofs.YtahmhhbpdgopjaaDoor.PAll
