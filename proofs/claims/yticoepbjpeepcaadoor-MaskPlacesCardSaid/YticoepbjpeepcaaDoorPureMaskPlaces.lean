/- Has, With, Without and Count tell what the chapter says. For whatever set and number. -/
import Derived.Test.YticoepbjpeepcaaDoorMkC
namespace Go.Proofs.YticoepbjpeepcaaDoor.Pure
open Go Go.RowKit Go.Proofs.YticoepbjpeepcaaDoor.PAll Go.Proofs.YticoepbjpeepcaaDoorW.PrintWords Go.Proofs.YticoepbjpeepcaaDoorW.PrintLast Go.Proofs.YticoepbjpeepcaaDoorW.PrintMore
open Go.Proofs.YticoepbjpeepcaaDoor.Eo Go.Proofs.YticoepbjpeepcaaDoor.Wd Go.Proofs.YticoepbjpeepcaaDoor.Bt Go.Proofs.YticoepbjpeepcaaDoor.Wp Go.Proofs.YticoepbjpeepcaaDoor.Mk
set_option linter.unusedVariables false
set_option linter.unusedSimpArgs false
set_option linter.unusedSectionVars false

theorem MaskPlaces : windrowlaw04_MaskPlaces.Pure := by
  intro l a _ _ hw ha
  replace hw := wfAll hw
  replace ha := wf64 ha
  obtain ⟨Km, hm⟩ := masked_eo
  by_cases h : (l.length : Int) > 8
  · refine ⟨Km, ?_⟩
    unfold windrowlaw04_MaskPlaces.f
    exact itp h (bnd (hm Km (Nat.le_refl _)) rfl)
  · obtain ⟨r, hr, h1, ⟨K2, h2⟩⟩ := withs_eo hw (by omega) a
    obtain ⟨s, hs, ⟨K3, h3⟩, ⟨K4, h4⟩⟩ := withouts_eo hw (by omega) a
    obtain ⟨K5, h5⟩ := rhas_eo hw (by omega) (a := a) (by omega)
    obtain ⟨K6, h6⟩ := words_eo r.1 (by omega)
    obtain ⟨K7, h7⟩ := words_eo s.1 (by omega)
    obtain ⟨K8, h8⟩ := count_eo hw (by omega)
    obtain ⟨K9, h9⟩ := rplaces_eo hw (by omega)
    refine ⟨Km + K2 + K3 + K4 + K5 + K6 + K7 + K8 + K9, ?_⟩
    unfold windrowlaw04_MaskPlaces.f
    refine itn h (bnd h1 (bnd (h2 _ (by omega)) (bnd (h3 _ (by omega)) (bnd (h4 _ (by omega)) (bnd (hm _ (by omega)) (itp rfl (bnd (has_eq hw (by omega) (by omega)) (bnd (h5 _ (by omega)) (itp (by simp) (bnd (h6 _ (by omega)) (itp rfl (itp rfl (bnd (h7 _ (by omega)) (itp rfl (itp rfl (bnd (h8 _ (by omega)) (bnd (h9 _ (by omega)) ?_)))))))))))))))))
    rw [pls_len]
    show some (((size l : Nat) : Int) == ((cnt (mem l) (64 * l.length) : Nat) : Int)) = some true
    unfold size
    simp
end Go.Proofs.YticoepbjpeepcaaDoor.Pure
