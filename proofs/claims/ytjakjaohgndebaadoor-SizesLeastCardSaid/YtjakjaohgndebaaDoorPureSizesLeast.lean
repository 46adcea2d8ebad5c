/- An object finds room in a cell of its class, and in none of a lesser one; a greater object has no lesser class. For whatever two numbers. -/
import Derived.Test.YtjakjaohgndebaaDoorSzA
namespace Go.Proofs.YtjakjaohgndebaaDoor.Pure
open Go Go.RowKit Go.Proofs.YtjakjaohgndebaaDoor.PAll Go.Proofs.YtjakjaohgndebaaDoorW.PrintWords Go.Proofs.YtjakjaohgndebaaDoorW.PrintLast Go.Proofs.YtjakjaohgndebaaDoorW.PrintMore
open Go.Proofs.YtjakjaohgndebaaDoor.Eo Go.Proofs.YtjakjaohgndebaaDoor.Wd Go.Proofs.YtjakjaohgndebaaDoor.Bt Go.Proofs.YtjakjaohgndebaaDoor.Wp Go.Proofs.YtjakjaohgndebaaDoor.Sz
set_option linter.unusedVariables false
set_option linter.unusedSimpArgs false
set_option linter.unusedSectionVars false

theorem least_all : ∀ x y : Fin 32, windrowlaw05_SizesLeast.f 3 ((x.1 : Nat) : Int) ((y.1 : Nat) : Int) = some true := by decide +kernel

theorem SizesLeast : windrowlaw05_SizesLeast.Pure := by
  intro a b _ _
  obtain ⟨n, n1, n2, n3⟩ := red (m := 32) (by omega) (by omega) a
  obtain ⟨m, m1, m2, m3⟩ := red (m := 32) (by omega) (by omega) b
  refine ⟨3, ?_⟩
  have e : windrowlaw05_SizesLeast.f 3 a b = windrowlaw05_SizesLeast.f 3 (n : Int) (m : Int) := by
    unfold windrowlaw05_SizesLeast.f
    rw [n2, n3, m2, m3]
  rw [e]
  exact least_all ⟨n, by omega⟩ ⟨m, by omega⟩
end Go.Proofs.YtjakjaohgndebaaDoor.Pure
