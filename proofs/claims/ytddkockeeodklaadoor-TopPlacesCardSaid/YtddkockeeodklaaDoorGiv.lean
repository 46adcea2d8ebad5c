/- The contracts given by hand, together. -/
import Derived.Test.YtddkockeeodklaaDoorGivS
namespace Go.Proofs.YtddkockeeodklaaDoor.PAll
end Go.Proofs.YtddkockeeodklaaDoor.PAll
