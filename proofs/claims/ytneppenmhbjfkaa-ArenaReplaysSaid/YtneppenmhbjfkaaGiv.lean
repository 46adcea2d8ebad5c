/- celled, as the printed texts ask for it. -/
import Derived.Test.YtneppenmhbjfkaaArF
namespace Go.Proofs.Ytneppenmhbjfkaa.PAll
open Go Go.RowKit Go.Proofs.Ytneppenmhbjfkaa.Hp

def windrowlaw03_celled.f : Option Bool := some true
theorem windrowlaw03_celled.calls (r : Bool) (w : World) (h : windrowlaw03_celled.f = some r) : Calls Try.prog 9 #[] w fun e w' => e = .returned (.bool r) ∧ Below w.heap.size w w' := by
  obtain rfl := Option.some.inj h
  exact (Ar.celled w).mono fun e w' hw => ⟨hw.1, ⟨hw.2.os, hw.2.tape, hw.2.output, hw.2.size, fun k hk => hw.2.block k hk id⟩⟩
end Go.Proofs.Ytneppenmhbjfkaa.PAll
