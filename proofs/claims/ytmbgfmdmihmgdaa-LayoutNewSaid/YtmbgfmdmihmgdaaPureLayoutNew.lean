/- Of all numbers there is a plan just where the chapter says; it has as many cells, and its heap begins, as it says. For whatever three whole numbers of the kind int. -/
import Derived.Test.YtmbgfmdmihmgdaaPAllx6
import Derived.Test.YtmbgfmdmihmgdaaLayP
namespace Go.Proofs.Ytmbgfmdmihmgdaa.Pure
open Go.RowKit Go.Proofs.Ytmbgfmdmihmgdaa.PAll Go.Proofs.YtmbgfmdmihmgdaaW.PrintWords Go.Proofs.YtmbgfmdmihmgdaaW.PrintLast
set_option linter.unusedVariables false
set_option linter.unusedSimpArgs false
open Go.Proofs.Ytmbgfmdmihmgdaa.Eo Go.Proofs.Ytmbgfmdmihmgdaa.Lay

theorem LayoutNew : windrowlaw06_LayoutNew.Pure := by
  intro a b c _ _ _
  rcases right_cases a b c with ⟨P, T, R, rfl, rfl, rfl, h⟩ | ⟨h1, h2⟩
  · have hb : Eo (fun k => windrowref06_Base.f k P T R) ((bs P T R : Nat) : Int) := by
      have hlt : bs P T R < cl P T R := by unfold cl; have := h.1; omega
      refine ((where_at h (by omega) hlt (spot_base P T R)).bind (f := fun t _ => some t) (Eo.of fun _ => rfl)).congr fun k => rfl
    have hc : Eo (fun k => windrowref06_Cells.f k P T R) ((cl P T R : Nat) : Int) :=
      ((spots_ev h).bind (f := fun t _ => some (t.length : Int)) (Eo.of fun _ => by rw [G_length])).congr fun k => rfl
    obtain ⟨k, e1, e2⟩ := hb.two hc
    refine ⟨k, ?_⟩
    unfold windrowlaw06_LayoutNew.f layout_New.f windrowlaw06_plan.f
    rw [plan_right_true h, right_true h, laid_true]
    simp only [Option.bind_some, if_true, BEq.rfl, Bool.and_self]
    rw [p_cells h, e2]
    simp only [Option.bind_some, if_true]
    rw [p_base h, e1]
    simp
  · refine ⟨0, ?_⟩
    unfold windrowlaw06_LayoutNew.f layout_New.f windrowlaw06_plan.f
    rw [h1, h2, laid_true]
    simp only [Option.bind_some, if_true, BEq.rfl, Bool.and_self, no_cells h2, no_base h2, Bool.false_eq_true, if_false]
end Go.Proofs.Ytmbgfmdmihmgdaa.Pure
