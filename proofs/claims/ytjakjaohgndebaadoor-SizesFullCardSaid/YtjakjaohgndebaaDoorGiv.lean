/- The contracts given by hand, together. -/
import Derived.Test.YtjakjaohgndebaaDoorGivS
namespace Go.Proofs.YtjakjaohgndebaaDoor.PAll
end Go.Proofs.YtjakjaohgndebaaDoor.PAll
