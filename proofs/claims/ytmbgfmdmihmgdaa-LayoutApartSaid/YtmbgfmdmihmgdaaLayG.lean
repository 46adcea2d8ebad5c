/- What a cell is for, by the program's own Find: in plain numbers. -/
import Derived.Test.YtmbgfmdmihmgdaaLayF
namespace Go.Proofs.Ytmbgfmdmihmgdaa.Lay
open Go.RowKit Go.Proofs.Ytmbgfmdmihmgdaa.PAll Go.Proofs.YtmbgfmdmihmgdaaW.PrintWords Go.Proofs.YtmbgfmdmihmgdaaW.PrintLast
open Go.Proofs.Ytmbgfmdmihmgdaa.Eo
set_option linter.unusedVariables false
set_option linter.unusedSimpArgs false
set_option linter.unusedSectionVars false

/-- What a number's cell is for: a spot, or nothing. -/
def spotOr (P T R : Nat) (i : Int) : S39 := if 0 ≤ i ∧ i < cl P T R then spotAt P T R i.toNat else ⟨0, 0, 0⟩


section
variable {P T R : Nat} (h : right P T R)
include h

/-- The program's answer is the same spot. -/
theorem p_find (i : Int) (hi : -9223372036854775808 ≤ i ∧ i ≤ 9223372036854775807) (k : Nat) : layout_Plan_Find.f (k + 2) P T R i = some ((spotOr P T R i).f0, (spotOr P T R i).f1, (spotOr P T R i).f2) := by
  have hr := plan_right_true h
  have hc := p_cells h
  have ht := p_tables h
  have he := p_each h
  have hl := cl_le h
  have htl := tb_le h
  have hb := bs_ge P T R
  have h16 : 16 ≤ tb T R := by unfold tb; omega
  have hcl : cl P T R = bs P T R + 64 * P := rfl
  have hP := h.1
  have hP2 := h.2.1
  unfold layout_Plan_Find.f
  refine bnd hr (itp rfl ?_)
  by_cases h0 : i < 0
  · refine itp h0 ?_
    rw [layout_Plan_Find.j0]
    refine itp rfl ?_
    unfold spotOr; rw [if_neg (show ¬ (0 ≤ i ∧ i < (cl P T R : Int)) by omega)]
  · refine itn h0 (bnd hc ?_)
    obtain ⟨n, rfl⟩ : ∃ n : Nat, i = n := ⟨i.toNat, by omega⟩
    by_cases h1 : (n : Int) ≥ (cl P T R : Int)
    · rw [layout_Plan_Find.j0]
      refine itp (decide_eq_true h1) ?_
      unfold spotOr; rw [if_neg (show ¬ (0 ≤ (n : Int) ∧ (n : Int) < (cl P T R : Int)) by omega)]
    · rw [layout_Plan_Find.j0]
      refine itn (by rw [decide_eq_true_eq]; exact h1) ?_
      have es : spotOr P T R n = spotAt P T R n := by unfold spotOr; rw [if_pos (by omega)]; rfl
      rw [es]
      by_cases c8 : (n : Int) < 8
      · refine itp c8 ?_
        by_cases c0 : n = 0
        · subst c0
          refine itp rfl ?_
          rw [layout_Plan_Find.j1]
          exact itp rfl rfl
        · refine itn (by omega) ?_
          rw [layout_Plan_Find.j1]
          by_cases c7 : n = 7
          · subst c7; exact itp rfl rfl
          · have ev : spotAt P T R n = ⟨1, n, 0⟩ := by unfold spotAt; rw [if_neg c0, if_pos (by omega)]
            rw [ev]
            refine itn ?_ rfl
            rw [beq_iff_eq]; omega
      · refine itn c8 ?_
        by_cases c16 : (n : Int) < 16
        · refine itp c16 ?_
          have ev : spotAt P T R n = ⟨2, (n : Int) - 8, 0⟩ := by unfold spotAt; rw [if_neg (by omega), if_neg (by omega), if_neg (by omega), if_pos (by omega)]
          rw [ev, w64 (by omega) (by omega)]
        · refine itn c16 (bnd ht ?_)
          by_cases ct : (n : Int) < (tb T R : Int)
          · refine itp ct (bnd he (itn (by omega) (bnd he (itn (by omega) ?_))))
            have ew : wrap64 ((n : Int) - 16) = ((n - 16 : Nat) : Int) := by rw [w64 (by omega) (by omega)]; omega
            rw [ew, tm (by omega), td (by omega)]
            clear ew
            have em : ((n - 16 : Nat) : Int) % ((5 + R : Nat) : Int) = (((n - 16) % (5 + R) : Nat) : Int) := rfl
            have ed : ((n - 16 : Nat) : Int) / ((5 + R : Nat) : Int) = (((n - 16) / (5 + R) : Nat) : Int) := rfl
            rw [em, ed]
            clear em ed
            have ev : spotAt P T R n = (if (n - 16) % (5 + R) < 5 then ⟨3, ((n - 16) / (5 + R) : Nat), ((n - 16) % (5 + R) : Nat)⟩ else ⟨4, ((n - 16) / (5 + R) : Nat), (((n - 16) % (5 + R) : Nat) : Int) - 5⟩) := by
              unfold spotAt; rw [if_neg (by omega), if_neg (by omega), if_neg (by omega), if_neg (by omega), if_pos (by omega)]
            rw [ev]
            clear ev es
            have hdl : (n - 16) / (5 + R) ≤ n - 16 := Nat.div_le_self _ _
            have hml := Nat.mod_lt (n - 16) (show 0 < 5 + R by omega)
            have hR2 := h.2.2.2.2.2
            revert hdl hml
            generalize (n - 16) % (5 + R) = q
            generalize (n - 16) / (5 + R) = d
            intro hdl hml
            by_cases c5 : q < 5
            · rw [if_pos c5]
              refine itp (by omega) ?_
              rw [w64 (by omega) (by omega)]
            · rw [if_neg c5]
              refine itn (by omega) ?_
              rw [w64 (x := (d : Int)) (by omega) (by omega), w64 (by omega) (by omega)]
          · refine itn ct (bnd ht ?_)
            have w1 : wrap64 ((tb T R : Int) + wrap64 (3 * (P : Int))) = tb T R + 3 * P := by rw [w64 (x := 3 * (P : Int)) (by omega) (by omega), w64 (by omega) (by omega)]
            rw [w1]
            clear w1
            by_cases cp : (n : Int) < (tb T R : Int) + 3 * P
            · refine itp cp (bnd ht (itn (by omega) ?_))
              have w2 : wrap64 ((n : Int) - (tb T R : Int)) = ((n - tb T R : Nat) : Int) := by rw [w64 (by omega) (by omega)]; omega
              rw [w2, tm (by omega), td (by omega)]
              clear w2
              have em : ((n - tb T R : Nat) : Int) % (P : Int) = (((n - tb T R) % P : Nat) : Int) := rfl
              have ed : ((n - tb T R : Nat) : Int) / (P : Int) = (((n - tb T R) / P : Nat) : Int) := rfl
              rw [em, ed]
              clear em ed es
              by_cases q0 : n < tb T R + P
              · have ev : spotAt P T R n = ⟨5, (n : Int) - tb T R, 0⟩ := by
                  unfold spotAt; rw [if_neg (by omega), if_neg (by omega), if_neg (by omega), if_neg (by omega), if_neg (by omega), if_pos (by omega)]
                rw [ev, Nat.mod_eq_of_lt (by omega), Nat.div_eq_of_lt (by omega), w64 (x := ((0 : Nat) : Int)) (by omega) (by omega), w64 (by omega) (by omega)]
                congr 1; rw [Prod.mk.injEq, Prod.mk.injEq]; refine ⟨?_, ?_, rfl⟩ <;> dsimp only <;> omega
              · by_cases q1 : n < tb T R + 2 * P
                · have e1 : n - tb T R = (n - tb T R - P) + P * 1 := by omega
                  have ev : spotAt P T R n = ⟨6, (n : Int) - tb T R - P, 0⟩ := by
                    unfold spotAt; rw [if_neg (by omega), if_neg (by omega), if_neg (by omega), if_neg (by omega), if_neg (by omega), if_neg (by omega), if_pos (by omega)]
                  rw [ev, e1, Nat.add_mul_mod_self_left, Nat.add_mul_div_left _ _ (by omega), Nat.mod_eq_of_lt (by omega), Nat.div_eq_of_lt (by omega), w64 (x := ((0 + 1 : Nat) : Int)) (by omega) (by omega), w64 (by omega) (by omega)]
                  congr 1; rw [Prod.mk.injEq, Prod.mk.injEq]; refine ⟨?_, ?_, rfl⟩ <;> dsimp only <;> omega
                · have e1 : n - tb T R = (n - tb T R - 2 * P) + P * 2 := by omega
                  have ev : spotAt P T R n = ⟨7, (n : Int) - tb T R - 2 * P, 0⟩ := by
                    unfold spotAt; rw [if_neg (by omega), if_neg (by omega), if_neg (by omega), if_neg (by omega), if_neg (by omega), if_neg (by omega), if_neg (by omega), if_pos (by omega)]
                  rw [ev, e1, Nat.add_mul_mod_self_left, Nat.add_mul_div_left _ _ (by omega), Nat.mod_eq_of_lt (by omega), Nat.div_eq_of_lt (by omega), w64 (x := ((0 + 2 : Nat) : Int)) (by omega) (by omega), w64 (by omega) (by omega)]
                  congr 1; rw [Prod.mk.injEq, Prod.mk.injEq]; refine ⟨?_, ?_, rfl⟩ <;> dsimp only <;> omega
            · refine itn cp ?_
              by_cases cb : n < bs P T R
              · have ev : spotAt P T R n = ⟨0, 0, 0⟩ := by
                  unfold spotAt; rw [if_neg (by omega), if_neg (by omega), if_neg (by omega), if_neg (by omega), if_neg (by omega), if_neg (by omega), if_neg (by omega), if_neg (by omega), if_pos (by omega)]
                rw [ev]
                have hpl := p_place h hi
                rw [if_neg (show ¬ ((bs P T R : Int) ≤ (n : Int) ∧ (n : Int) < (cl P T R : Int)) by omega)] at hpl
                exact bnd hpl (itp (show (-1 : Int) < 0 by omega) rfl)
              · have ev : spotAt P T R n = ⟨8, ((n - bs P T R) / 64 : Nat), ((n - bs P T R) % 64 : Nat)⟩ := by
                  unfold spotAt; rw [if_neg (by omega), if_neg (by omega), if_neg (by omega), if_neg (by omega), if_neg (by omega), if_neg (by omega), if_neg (by omega), if_neg (by omega), if_neg (by omega)]
                rw [ev]
                have hpl := p_place h hi
                rw [if_pos (show ((bs P T R : Int) ≤ (n : Int) ∧ (n : Int) < (cl P T R : Int)) by omega)] at hpl
                refine bnd hpl (itn (show ¬ (((n : Int) - bs P T R) / 64 < 0) by omega) ?_)
                clear hpl ev es
                congr 1
                rw [Prod.mk.injEq, Prod.mk.injEq]
                refine ⟨rfl, ?_, ?_⟩ <;> dsimp only <;> omega
end
end Go.Proofs.Ytmbgfmdmihmgdaa.Lay
