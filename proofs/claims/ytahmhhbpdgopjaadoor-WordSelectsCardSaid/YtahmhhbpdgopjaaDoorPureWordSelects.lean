/- The law of selection, in plain numbers. -/
import Derived.Test.YtahmhhbpdgopjaaDoorWpD
namespace Go.Proofs.YtahmhhbpdgopjaaDoor.Pure
open Go.RowKit Go.Proofs.YtahmhhbpdgopjaaDoor.PAll Go.Proofs.YtahmhhbpdgopjaaDoor.Wp Go.Proofs.YtahmhhbpdgopjaaDoor.Eo Go.Proofs.YtahmhhbpdgopjaaDoor.Wd Go.Proofs.YtahmhhbpdgopjaaDoor.Bt
set_option linter.unusedVariables false

theorem WordSelects : windrowlaw01_WordSelects.Pure := by
  intro w m hw hm
  replace hw := wfW hw
  obtain ⟨r, hr, K1, h1⟩ := select_eo hw m
  obtain ⟨K2, h2⟩ := rselect_eo hw hr
  obtain ⟨K3, h3⟩ := worded_eo
  refine ⟨K1 + K2 + K3, ?_⟩
  unfold windrowlaw01_WordSelects.f
  exact bnd (h3 _ (by omega)) (itp rfl (bnd (h1 _ (by omega)) (bnd (h2 _ (by omega)) (by simp))))
end Go.Proofs.YtahmhhbpdgopjaaDoor.Pure
