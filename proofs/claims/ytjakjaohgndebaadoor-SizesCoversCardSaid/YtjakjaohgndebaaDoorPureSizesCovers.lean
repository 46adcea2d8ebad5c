/- Each word of a page lies in one cell at most; all words of a cell have the same one; what is in none stands at the page's end. For whatever number. -/
import Derived.Test.YtjakjaohgndebaaDoorSzA
namespace Go.Proofs.YtjakjaohgndebaaDoor.Pure
open Go Go.RowKit Go.Proofs.YtjakjaohgndebaaDoor.PAll Go.Proofs.YtjakjaohgndebaaDoorW.PrintWords Go.Proofs.YtjakjaohgndebaaDoorW.PrintLast Go.Proofs.YtjakjaohgndebaaDoorW.PrintMore
open Go.Proofs.YtjakjaohgndebaaDoor.Eo Go.Proofs.YtjakjaohgndebaaDoor.Wd Go.Proofs.YtjakjaohgndebaaDoor.Bt Go.Proofs.YtjakjaohgndebaaDoor.Wp Go.Proofs.YtjakjaohgndebaaDoor.Sz
set_option linter.unusedVariables false
set_option linter.unusedSimpArgs false
set_option linter.unusedSectionVars false

theorem covers_all : ∀ x : Fin 8, windrowlaw05_SizesCovers.f 400 ((x.1 : Nat) : Int) = some true := by decide +kernel

theorem SizesCovers : windrowlaw05_SizesCovers.Pure := by
  intro a _
  obtain ⟨n, n1, n2, n3⟩ := red (m := 8) (by omega) (by omega) a
  refine ⟨400, ?_⟩
  have e : windrowlaw05_SizesCovers.f 400 a = windrowlaw05_SizesCovers.f 400 (n : Int) := by
    unfold windrowlaw05_SizesCovers.f
    rw [n2, n3]
  rw [e]
  exact covers_all ⟨n, by omega⟩
end Go.Proofs.YtjakjaohgndebaaDoor.Pure
