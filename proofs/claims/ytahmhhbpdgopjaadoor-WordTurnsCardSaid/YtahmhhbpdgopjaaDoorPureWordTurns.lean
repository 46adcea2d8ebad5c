/- The law of turns, in plain numbers. -/
import Derived.Test.YtahmhhbpdgopjaaDoorWpB
namespace Go.Proofs.YtahmhhbpdgopjaaDoor.Pure
open Go.RowKit Go.Proofs.YtahmhhbpdgopjaaDoor.PAll Go.Proofs.YtahmhhbpdgopjaaDoor.Wp Go.Proofs.YtahmhhbpdgopjaaDoor.Eo Go.Proofs.YtahmhhbpdgopjaaDoor.Wd Go.Proofs.YtahmhhbpdgopjaaDoor.Bt
set_option linter.unusedVariables false

theorem WordTurns : windrowlaw01_WordTurns.Pure := by
  intro w a hw ha
  replace hw := wfW hw
  obtain ⟨K1, h1⟩ := rturn_eo hw a
  obtain ⟨K2, h2⟩ := worded_eo
  refine ⟨K1 + K2, ?_⟩
  unfold windrowlaw01_WordTurns.f
  exact bnd (h2 _ (by omega)) (itp rfl (bnd (turn_eq w a) (bnd (h1 _ (by omega)) (by simp))))
end Go.Proofs.YtahmhhbpdgopjaaDoor.Pure
