/- The law of fields, in plain numbers. -/
import Derived.Test.YtahmhhbpdgopjaaDoorWpB
namespace Go.Proofs.YtahmhhbpdgopjaaDoor.Pure
open Go.RowKit Go.Proofs.YtahmhhbpdgopjaaDoor.PAll Go.Proofs.YtahmhhbpdgopjaaDoor.Wp Go.Proofs.YtahmhhbpdgopjaaDoor.Eo Go.Proofs.YtahmhhbpdgopjaaDoor.Wd Go.Proofs.YtahmhhbpdgopjaaDoor.Bt
set_option linter.unusedVariables false

theorem WordFields : windrowlaw01_WordFields.Pure := by
  intro w a n v hw ha hn hv
  replace hw := wfW hw
  replace hv := wfW hv
  obtain ⟨x, e, g, _⟩ := get_some hw a n
  obtain ⟨y, f, p, _⟩ := put_some hw hv a n
  obtain ⟨K1, h1⟩ := rget_eo hw g
  obtain ⟨K2, h2⟩ := rput_eo hw hv p
  obtain ⟨K3, h3⟩ := worded_eo
  refine ⟨K1 + K2 + K3, ?_⟩
  unfold windrowlaw01_WordFields.f
  exact bnd g (bnd (h1 _ (by omega)) (bnd p (bnd (h2 _ (by omega)) (bnd (h3 _ (by omega)) (itp rfl (itp rfl (itp rfl (itp rfl (by simp)))))))))
end Go.Proofs.YtahmhhbpdgopjaaDoor.Pure
