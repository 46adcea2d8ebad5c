/- The next place, the next number that is none, and the first room are what the chapter says. For whatever set and numbers. -/
import Derived.Test.YticoepbjpeepcaaDoorMkB
namespace Go.Proofs.YticoepbjpeepcaaDoor.Pure
open Go Go.RowKit Go.Proofs.YticoepbjpeepcaaDoor.PAll Go.Proofs.YticoepbjpeepcaaDoorW.PrintWords Go.Proofs.YticoepbjpeepcaaDoorW.PrintLast Go.Proofs.YticoepbjpeepcaaDoorW.PrintMore
open Go.Proofs.YticoepbjpeepcaaDoor.Eo Go.Proofs.YticoepbjpeepcaaDoor.Wd Go.Proofs.YticoepbjpeepcaaDoor.Bt Go.Proofs.YticoepbjpeepcaaDoor.Wp Go.Proofs.YticoepbjpeepcaaDoor.Mk
set_option linter.unusedVariables false
set_option linter.unusedSimpArgs false
set_option linter.unusedSectionVars false

theorem fits_eo {l : List Int} (hl : AllW l) (hn : l.length ≤ 100000) {n : Int} (h : n < 9223372036854775808) : ∃ r, Eo (fun k => mask_Fit.f k l n) r ∧ Eo (fun k => windrowref04_Fit.f k l n) r := by
  by_cases h1 : 1 ≤ n
  · obtain ⟨r, hr, e⟩ := fit_eo hl hn h1 h
    obtain ⟨s, hs, e2⟩ := rfit_eo hl hn h1 h
    obtain rfl := fitR_unique hr hs
    exact ⟨r, e, e2⟩
  · exact ⟨0, Eo.of fun k => by unfold mask_Fit.f; exact itp (by omega) rfl, Eo.of fun k => by unfold windrowref04_Fit.f; exact itp (by omega) rfl⟩

theorem MaskNexts : windrowlaw04_MaskNexts.Pure := by
  intro l a n _ _ hw ha hn
  replace hw := wfAll hw
  replace ha := wf64 ha
  replace hn := wf64 hn
  obtain ⟨Km, hm⟩ := masked_eo
  by_cases h : (l.length : Int) > 8
  · refine ⟨Km, ?_⟩
    unfold windrowlaw04_MaskNexts.f
    exact itp h (bnd (hm Km (Nat.le_refl _)) rfl)
  · obtain ⟨r, hr, K1, h1⟩ := next_eo hw (by omega) (a := a) (by omega)
    obtain ⟨s, hs, K2, h2⟩ := rnext_eo hw (by omega) (a := a) (by omega)
    obtain rfl := nextR_unique hr hs
    obtain ⟨t, ht, K3, h3⟩ := clear_eo hw (by omega) (a := a) (by omega)
    obtain ⟨u, hu, K4, h4⟩ := rclear_eo hw (by omega) (a := a) (by omega)
    obtain rfl := nextR_unique ht hu
    obtain ⟨v, ⟨K5, h5⟩, ⟨K6, h6⟩⟩ := fits_eo hw (by omega) (n := n) (by omega)
    refine ⟨Km + K1 + K2 + K3 + K4 + K5 + K6, ?_⟩
    unfold windrowlaw04_MaskNexts.f
    exact itn h (bnd (hm _ (by omega)) (itp rfl (bnd (h1 _ (by omega)) (bnd (h2 _ (by omega)) (itp rfl (bnd (h3 _ (by omega)) (bnd (h4 _ (by omega)) (itp rfl (bnd (h5 _ (by omega)) (bnd (h6 _ (by omega)) (by simp)))))))))))
end Go.Proofs.YticoepbjpeepcaaDoor.Pure
