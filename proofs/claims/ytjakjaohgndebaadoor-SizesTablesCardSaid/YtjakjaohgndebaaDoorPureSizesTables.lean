/- How many words a class's cells have, how many cells a page has, and where they begin, are what the chapter says. For whatever number. -/
import Derived.Test.YtjakjaohgndebaaDoorSzA
namespace Go.Proofs.YtjakjaohgndebaaDoor.Pure
open Go Go.RowKit Go.Proofs.YtjakjaohgndebaaDoor.PAll Go.Proofs.YtjakjaohgndebaaDoorW.PrintWords Go.Proofs.YtjakjaohgndebaaDoorW.PrintLast Go.Proofs.YtjakjaohgndebaaDoorW.PrintMore
open Go.Proofs.YtjakjaohgndebaaDoor.Eo Go.Proofs.YtjakjaohgndebaaDoor.Wd Go.Proofs.YtjakjaohgndebaaDoor.Bt Go.Proofs.YtjakjaohgndebaaDoor.Wp Go.Proofs.YtjakjaohgndebaaDoor.Sz
set_option linter.unusedVariables false
set_option linter.unusedSimpArgs false
set_option linter.unusedSectionVars false

theorem SizesTables : windrowlaw05_SizesTables.Pure := by
  intro a _
  by_cases h : 0 ≤ a ∧ a < 8
  · exact ⟨200, known_cases (P := fun a => windrowlaw05_SizesTables.f 200 a = some true) (by decide +kernel) h⟩
  · obtain ⟨K, hK⟩ := begs_no h
    refine ⟨K + 1, ?_⟩
    unfold windrowlaw05_SizesTables.f
    have hs : windrowref05_Starts.f (K + 1) a = some (0, 1) := by
      unfold windrowref05_Starts.f
      refine bnd (rwords_no h) (bnd (hK _ (by omega)) ?_)
      rw [windrowref05_Starts.l0]
      exact itn (by simp) rfl
    refine bnd (show sizes_Words.f a = some (0, 1) by unfold sizes_Words.f; rw [if_neg h]) (bnd (rwords_no h) (bnd (show sizes_Cells.f a = some (0, 1) by unfold sizes_Cells.f; rw [if_neg h]) (bnd (starts_no h) (bnd hs (bnd sized_eq (itp rfl (itp rfl (itp rfl (bnd (hK _ (by omega)) (itp rfl (itp rfl (itp rfl ?_))))))))))))
    rfl
end Go.Proofs.YtjakjaohgndebaaDoor.Pure
