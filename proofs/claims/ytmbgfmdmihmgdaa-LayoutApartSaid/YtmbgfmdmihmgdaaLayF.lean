/- What a cell is for, by the program: in plain numbers. -/
import Derived.Test.YtmbgfmdmihmgdaaLayP
import Derived.Test.YtmbgfmdmihmgdaaPAllx
namespace Go.Proofs.Ytmbgfmdmihmgdaa.Lay
open Go.RowKit Go.Proofs.Ytmbgfmdmihmgdaa.PAll Go.Proofs.YtmbgfmdmihmgdaaW.PrintWords Go.Proofs.YtmbgfmdmihmgdaaW.PrintLast
open Go.Proofs.Ytmbgfmdmihmgdaa.Eo
set_option linter.unusedVariables false
set_option linter.unusedSimpArgs false
set_option linter.unusedSectionVars false

theorem p_place {P T R : Nat} (h : right P T R) {i : Int} (h0 : -9223372036854775808 ≤ i ∧ i ≤ 9223372036854775807) :
    layout_Plan_Place.f P T R i = some (if (bs P T R : Int) ≤ i ∧ i < cl P T R then ((i - bs P T R) / 64, (i - bs P T R) % 64) else (-1, -1)) := by
  have hr := plan_right_true h
  have hb := p_base h
  have hc := p_cells h
  have hl := cl_le h
  have hcl : cl P T R = bs P T R + 64 * P := rfl
  unfold layout_Plan_Place.f
  rw [hr]
  simp only [Option.bind_some, if_true, hb, hc]
  by_cases c1 : i < bs P T R
  · rw [if_pos c1, if_neg (by omega)]
  · rw [if_neg c1]
    by_cases c2 : i ≥ cl P T R
    · rw [if_pos c2, if_neg (by omega)]
    · rw [if_neg c2, if_pos (by omega), w64 (x := i - _) (by omega) (by omega), td (by omega), tm (by omega), w64 (by omega) (by omega)]

theorem no_place {a b c i : Int} (h : layout_Plan_right.f a b c = some false) : layout_Plan_Place.f a b c i = some (-1, -1) := by
  unfold layout_Plan_Place.f; rw [h]; rfl
end Go.Proofs.Ytmbgfmdmihmgdaa.Lay
