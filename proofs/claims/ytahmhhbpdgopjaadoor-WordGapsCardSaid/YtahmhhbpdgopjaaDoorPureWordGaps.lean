/- The law of gaps, in plain numbers. -/
import Derived.Test.YtahmhhbpdgopjaaDoorWpC
namespace Go.Proofs.YtahmhhbpdgopjaaDoor.Pure
open Go.RowKit Go.Proofs.YtahmhhbpdgopjaaDoor.PAll Go.Proofs.YtahmhhbpdgopjaaDoor.Wp Go.Proofs.YtahmhhbpdgopjaaDoor.Eo Go.Proofs.YtahmhhbpdgopjaaDoor.Wd Go.Proofs.YtahmhhbpdgopjaaDoor.Bt
set_option linter.unusedVariables false

theorem WordGaps : windrowlaw01_WordGaps.Pure := by
  intro w n hw hn
  replace hw := wfW hw
  have main : ∃ r, Eo (fun k => word_Gap.f k w n) r ∧ Eo (fun k => windrowref01_Gap.f k w n) r := by
    by_cases h1 : n ≤ 0
    · exact ⟨0, Eo.of fun k => by unfold word_Gap.f; exact itp h1 rfl, Eo.of fun k => by unfold windrowref01_Gap.f; exact itp (by omega) rfl⟩
    · by_cases h2 : n > 64
      · exact ⟨-1, Eo.of fun k => by unfold word_Gap.f; exact itn h1 (itp h2 rfl), Eo.of fun k => by unfold windrowref01_Gap.f; exact itn (by omega) (itp h2 rfl)⟩
      · obtain ⟨n', rfl⟩ := Int.eq_ofNat_of_zero_le (show 0 ≤ n by omega)
        obtain ⟨r, hr, he⟩ := gap_eo hw (n := n') (by omega) (by omega)
        exact ⟨r, he, rgap_eo hw (by omega) (by omega) hr⟩
  obtain ⟨r, ⟨K1, h1⟩, ⟨K2, h2⟩⟩ := main
  obtain ⟨K3, h3⟩ := worded_eo
  refine ⟨K1 + K2 + K3, ?_⟩
  unfold windrowlaw01_WordGaps.f
  exact bnd (h3 _ (by omega)) (itp rfl (bnd (h1 _ (by omega)) (bnd (h2 _ (by omega)) (by simp))))
end Go.Proofs.YtahmhhbpdgopjaaDoor.Pure
