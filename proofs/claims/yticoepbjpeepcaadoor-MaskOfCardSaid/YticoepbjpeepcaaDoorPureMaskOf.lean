/- The set of every list of places is what the chapter says. For whatever list. -/
import Derived.Test.YticoepbjpeepcaaDoorMkB
namespace Go.Proofs.YticoepbjpeepcaaDoor.Pure
open Go Go.RowKit Go.Proofs.YticoepbjpeepcaaDoor.PAll Go.Proofs.YticoepbjpeepcaaDoorW.PrintWords Go.Proofs.YticoepbjpeepcaaDoorW.PrintLast Go.Proofs.YticoepbjpeepcaaDoorW.PrintMore
open Go.Proofs.YticoepbjpeepcaaDoor.Eo Go.Proofs.YticoepbjpeepcaaDoor.Wd Go.Proofs.YticoepbjpeepcaaDoor.Bt Go.Proofs.YticoepbjpeepcaaDoor.Wp Go.Proofs.YticoepbjpeepcaaDoor.Mk
set_option linter.unusedVariables false
set_option linter.unusedSimpArgs false
set_option linter.unusedSectionVars false

theorem MaskOf : windrowlaw04_MaskOf.Pure := by
  intro l _ _ hw
  obtain ⟨Km, hm⟩ := masked_eo
  by_cases h : (l.length : Int) > 300
  · refine ⟨Km, ?_⟩
    unfold windrowlaw04_MaskOf.f
    exact itp h (bnd (hm Km (Nat.le_refl _)) rfl)
  · obtain ⟨r, hr, ⟨K1, h1⟩, ⟨K2, h2⟩⟩ := ofs_eo (L := l) (by omega)
    obtain ⟨K3, h3⟩ := words_eo r.1 (by omega)
    refine ⟨Km + K1 + K2 + K3, ?_⟩
    unfold windrowlaw04_MaskOf.f
    exact itn h (bnd (h1 _ (by omega)) (bnd (h2 _ (by omega)) (bnd (hm _ (by omega)) (itp rfl (bnd (h3 _ (by omega)) (itp rfl (by simp)))))))
end Go.Proofs.YticoepbjpeepcaaDoor.Pure
