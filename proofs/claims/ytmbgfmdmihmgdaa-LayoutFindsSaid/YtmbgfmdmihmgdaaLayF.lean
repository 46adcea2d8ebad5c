/- What a cell is for, by the program: in plain numbers. -/
import Derived.Test.YtmbgfmdmihmgdaaLayP
import Derived.Test.YtmbgfmdmihmgdaaPAllx9
namespace Go.Proofs.Ytmbgfmdmihmgdaa.Lay
open Go.RowKit Go.Proofs.Ytmbgfmdmihmgdaa.PAll Go.Proofs.YtmbgfmdmihmgdaaW.PrintWords Go.Proofs.YtmbgfmdmihmgdaaW.PrintLast
open Go.Proofs.Ytmbgfmdmihmgdaa.Eo
set_option linter.unusedVariables false
set_option linter.unusedSimpArgs false

theorem p_place {P T R : Nat} (h : right P T R) {i : Int} (h0 : -9223372036854775808 ≤ i ∧ i ≤ 9223372036854775807) :
    layout_Plan_Place.f P T R i = some (if (bs P T R : Int) ≤ i ∧ i < cl P T R then ((i - bs P T R) / 64, (i - bs P T R) % 64) else (-1, -1)) := by
  have hr := plan_right_true h
  have hb := p_base h
  have hc := p_cells h
  have hl := cl_le h
  have hcl : cl P T R = bs P T R + 64 * P := rfl
  unfold layout_Plan_Place.f
  rw [hr]
  simp only [Option.bind_some, if_true, hb, hc]
  by_cases c1 : i < bs P T R
  · rw [if_pos c1, if_neg (by omega)]
  · rw [if_neg c1]
    by_cases c2 : i ≥ cl P T R
    · rw [if_pos c2, if_neg (by omega)]
    · rw [if_neg c2, if_pos (by omega), w64 (x := i - _) (by omega) (by omega), td (by omega), tm (by omega), w64 (by omega) (by omega)]

theorem p_ref {P T R : Nat} (h : right P T R) {w : Int} (h0 : 0 ≤ w) : layout_Plan_Ref.f P T R w = some (decide ((bs P T R : Int) ≤ w ∧ w < cl P T R)) := by
  have hr := plan_right_true h
  have hl := cl_le h
  unfold layout_Plan_Ref.f
  rw [hr]
  simp only [Option.bind_some, if_true]
  by_cases c1 : w > 4096
  · rw [if_pos c1]; congr 1; symm; rw [decide_eq_false_iff_not]; omega
  · rw [if_neg c1, w64 (by omega) (by omega), p_place h (by omega)]
    simp only [Option.bind_some]
    congr 1
    by_cases c2 : (bs P T R : Int) ≤ w ∧ w < cl P T R
    · rw [if_pos c2]; simp only [c2, and_self, decide_true, decide_eq_true_eq]; omega
    · rw [if_neg c2]; simp only [c2, decide_false, decide_eq_false_iff_not]; omega

theorem no_place {a b c i : Int} (h : layout_Plan_right.f a b c = some false) : layout_Plan_Place.f a b c i = some (-1, -1) := by
  unfold layout_Plan_Place.f; rw [h]; rfl
theorem no_ref {a b c i : Int} (h : layout_Plan_right.f a b c = some false) : layout_Plan_Ref.f a b c i = some false := by
  unfold layout_Plan_Ref.f; rw [h]; rfl
end Go.Proofs.Ytmbgfmdmihmgdaa.Lay
