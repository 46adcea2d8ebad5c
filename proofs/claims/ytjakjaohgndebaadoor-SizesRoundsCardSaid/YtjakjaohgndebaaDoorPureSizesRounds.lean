/- What is taken for an object holds it; a page's cells, or its pages, hold as many as are said, and not one more. For whatever two numbers. -/
import Derived.Test.YtjakjaohgndebaaDoorSzA
namespace Go.Proofs.YtjakjaohgndebaaDoor.Pure
open Go Go.RowKit Go.Proofs.YtjakjaohgndebaaDoor.PAll Go.Proofs.YtjakjaohgndebaaDoorW.PrintWords Go.Proofs.YtjakjaohgndebaaDoorW.PrintLast Go.Proofs.YtjakjaohgndebaaDoorW.PrintMore
open Go.Proofs.YtjakjaohgndebaaDoor.Eo Go.Proofs.YtjakjaohgndebaaDoor.Wd Go.Proofs.YtjakjaohgndebaaDoor.Bt Go.Proofs.YtjakjaohgndebaaDoor.Wp Go.Proofs.YtjakjaohgndebaaDoor.Sz
set_option linter.unusedVariables false
set_option linter.unusedSimpArgs false
set_option linter.unusedSectionVars false

theorem rounds_all : ∀ x : Fin 256, ∀ y : Fin 33, windrowlaw05_SizesRounds.f 3 ((x.1 : Nat) : Int) ((y.1 : Nat) : Int) = some true := by decide +kernel

theorem SizesRounds : windrowlaw05_SizesRounds.Pure := by
  intro a b _ _
  obtain ⟨n, n1, n2, n3⟩ := red (m := 256) (by omega) (by omega) a
  obtain ⟨m, m1, m2, m3⟩ := red (m := 33) (by omega) (by omega) b
  refine ⟨3, ?_⟩
  have e : windrowlaw05_SizesRounds.f 3 a b = windrowlaw05_SizesRounds.f 3 (n : Int) (m : Int) := by
    unfold windrowlaw05_SizesRounds.f
    rw [n2, n3, m2, m3]
  rw [e]
  exact rounds_all ⟨n, by omega⟩ ⟨m, by omega⟩
end Go.Proofs.YtjakjaohgndebaaDoor.Pure
