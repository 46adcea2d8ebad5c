/- The maps of all plans within a few. -/
import Derived.Test.YtdcikbhfoplkmaaPHx5
namespace Go.Proofs.Ytdcikbhfoplkmaa.Ar
open Go Go.RowKit Go.Proofs.Ytdcikbhfoplkmaa.PH
set_option linter.unusedVariables false

set_option maxRecDepth 100000 in
theorem sm_allC : ∀ p : Fin 4, ∀ t : Fin 3, ∀ r : Fin 5, windrowref06_Cells.f 400 ((p.val : Int) + 1) ((t.val : Int) + 1) ((r.val : Int) + 1) = some (64 + 64 * ((p.val : Int) + 1)) := by decide +kernel
end Go.Proofs.Ytdcikbhfoplkmaa.Ar
