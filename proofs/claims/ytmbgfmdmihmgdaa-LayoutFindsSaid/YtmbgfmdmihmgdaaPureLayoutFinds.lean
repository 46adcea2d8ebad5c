/- Of every plan and number what the cell is for, its place in the heap, and whether a word is a reference, are what the chapter says. For whatever plan of three numbers of the kind int, number of the kind int and word of the kind uint64. -/
import Derived.Test.YtmbgfmdmihmgdaaPAllx11
import Derived.Test.YtmbgfmdmihmgdaaPAllx12
import Derived.Test.YtmbgfmdmihmgdaaPAllx13
import Derived.Test.YtmbgfmdmihmgdaaLayF
namespace Go.Proofs.Ytmbgfmdmihmgdaa.Pure
open Go.RowKit Go.Proofs.Ytmbgfmdmihmgdaa.PAll Go.Proofs.YtmbgfmdmihmgdaaW.PrintWords Go.Proofs.YtmbgfmdmihmgdaaW.PrintLast
set_option linter.unusedVariables false
set_option linter.unusedSimpArgs false
open Go.Proofs.Ytmbgfmdmihmgdaa.Eo Go.Proofs.Ytmbgfmdmihmgdaa.Lay

/-- What a number's cell is for: a spot, or nothing. -/
def spotOr (P T R : Nat) (i : Int) : S39 := if 0 ≤ i ∧ i < cl P T R then spotAt P T R i.toNat else ⟨0, 0, 0⟩

section
variable {P T R : Nat} (h : right P T R)
include h

theorem r_find (i : Int) : Eo (fun k => windrowref06_Find.f k P T R i) ((spotOr P T R i).f0, (spotOr P T R i).f1, (spotOr P T R i).f2) := by
  refine ((spots_ev h).bind (f := fun t k => if i < 0 then some ((0 : Int), (0 : Int), (0 : Int)) else if i ≥ (t.length : Int) then some (0, 0, 0) else if 0 ≤ i then if i < (t.length : Int) then some ((rd_T39 t i).f0, (rd_T39 t i).f1, (rd_T39 t i).f2) else none else none) (Eo.of fun k => ?_)).congr fun k => rfl
  rw [G_length]
  by_cases h0 : i < 0
  · rw [if_pos h0]; unfold spotOr; rw [if_neg (by omega)]
  · rw [if_neg h0]
    by_cases h1 : i ≥ (cl P T R : Int)
    · rw [if_pos h1]; unfold spotOr; rw [if_neg (by omega)]
    · rw [if_neg h1, if_pos (by omega), if_pos (by omega)]
      unfold spotOr
      rw [if_pos (by omega)]
      obtain ⟨n, rfl⟩ : ∃ n : Nat, i = n := ⟨i.toNat, by omega⟩
      rw [G_get n (by omega)]
      rfl

theorem r_place (i : Int) : Eo (fun k => windrowref06_Place.f k P T R i) (if (bs P T R : Int) ≤ i ∧ i < cl P T R then ((i - bs P T R) / 64, (i - bs P T R) % 64) else (-1, -1)) := by
  refine ((r_find h i).bind (f := fun bt k => if bt.1 = 8 then some (bt.2.1, bt.2.2) else some ((-1 : Int), (-1 : Int))) (Eo.of fun k => ?_)).congr fun k => rfl
  have hb := bs_ge P T R
  have h16 : 16 ≤ tb T R := by unfold tb; omega
  by_cases hi : (bs P T R : Int) ≤ i ∧ i < cl P T R
  · obtain ⟨n, rfl⟩ : ∃ n : Nat, i = n := ⟨i.toNat, by omega⟩
    have hs := spot_heap (P := P) (T := T) (R := R) (i := (n - bs P T R) / 64) (j := (n - bs P T R) % 64) (by omega)
    rw [show bs P T R + 64 * ((n - bs P T R) / 64) + (n - bs P T R) % 64 = n by omega] at hs
    have e : spotOr P T R n = ⟨8, ((n - bs P T R) / 64 : Nat), ((n - bs P T R) % 64 : Nat)⟩ := by
      unfold spotOr; rw [if_pos (by omega)]; exact hs
    rw [e, if_pos hi]
    simp only [if_true]
    congr 1
    rw [Prod.mk.injEq]; omega
  · rw [if_neg hi, if_neg]
    intro e
    unfold spotOr at e
    split at e
    · rename_i hc
      have := spot_inv h (m := i.toNat) (by omega) (a := (spotAt P T R i.toNat).f0) (b := (spotAt P T R i.toNat).f1) (c := (spotAt P T R i.toNat).f2) rfl
      rcases this with h2 | h2 | h2 | h2 | h2 | h2 | h2 | h2 | h2 <;> omega
    · simp at e

/-- The program's answer is the same spot. -/
theorem p_find (i : Int) (hi : -9223372036854775808 ≤ i ∧ i ≤ 9223372036854775807) (k : Nat) : layout_Plan_Find.f (k + 2) P T R i = some ((spotOr P T R i).f0, (spotOr P T R i).f1, (spotOr P T R i).f2) := by
  have hr := plan_right_true h
  have hc := p_cells h
  have ht := p_tables h
  have he := p_each h
  have hl := cl_le h
  have htl := tb_le h
  have hb := bs_ge P T R
  have h16 : 16 ≤ tb T R := by unfold tb; omega
  have hcl : cl P T R = bs P T R + 64 * P := rfl
  have hP := h.1
  have hP2 := h.2.1
  unfold layout_Plan_Find.f
  refine bnd hr (itp rfl ?_)
  by_cases h0 : i < 0
  · refine itp h0 ?_
    rw [layout_Plan_Find.j0]
    refine itp rfl ?_
    unfold spotOr; rw [if_neg (show ¬ (0 ≤ i ∧ i < (cl P T R : Int)) by omega)]
  · refine itn h0 (bnd hc ?_)
    obtain ⟨n, rfl⟩ : ∃ n : Nat, i = n := ⟨i.toNat, by omega⟩
    by_cases h1 : (n : Int) ≥ (cl P T R : Int)
    · rw [layout_Plan_Find.j0]
      refine itp (decide_eq_true h1) ?_
      unfold spotOr; rw [if_neg (show ¬ (0 ≤ (n : Int) ∧ (n : Int) < (cl P T R : Int)) by omega)]
    · rw [layout_Plan_Find.j0]
      refine itn (by rw [decide_eq_true_eq]; exact h1) ?_
      have es : spotOr P T R n = spotAt P T R n := by unfold spotOr; rw [if_pos (by omega)]; rfl
      rw [es]
      by_cases c8 : (n : Int) < 8
      · refine itp c8 ?_
        by_cases c0 : n = 0
        · subst c0
          refine itp rfl ?_
          rw [layout_Plan_Find.j1]
          exact itp rfl rfl
        · refine itn (by omega) ?_
          rw [layout_Plan_Find.j1]
          by_cases c7 : n = 7
          · subst c7; exact itp rfl rfl
          · have ev : spotAt P T R n = ⟨1, n, 0⟩ := by unfold spotAt; rw [if_neg c0, if_pos (by omega)]
            rw [ev]
            refine itn ?_ rfl
            rw [beq_iff_eq]; omega
      · refine itn c8 ?_
        by_cases c16 : (n : Int) < 16
        · refine itp c16 ?_
          have ev : spotAt P T R n = ⟨2, (n : Int) - 8, 0⟩ := by unfold spotAt; rw [if_neg (by omega), if_neg (by omega), if_neg (by omega), if_pos (by omega)]
          rw [ev, w64 (by omega) (by omega)]
        · refine itn c16 (bnd ht ?_)
          by_cases ct : (n : Int) < (tb T R : Int)
          · refine itp ct (bnd he (itn (by omega) (bnd he (itn (by omega) ?_))))
            have ew : wrap64 ((n : Int) - 16) = ((n - 16 : Nat) : Int) := by rw [w64 (by omega) (by omega)]; omega
            rw [ew, tm (by omega), td (by omega)]
            clear ew
            have em : ((n - 16 : Nat) : Int) % ((5 + R : Nat) : Int) = (((n - 16) % (5 + R) : Nat) : Int) := rfl
            have ed : ((n - 16 : Nat) : Int) / ((5 + R : Nat) : Int) = (((n - 16) / (5 + R) : Nat) : Int) := rfl
            rw [em, ed]
            clear em ed
            have ev : spotAt P T R n = (if (n - 16) % (5 + R) < 5 then ⟨3, ((n - 16) / (5 + R) : Nat), ((n - 16) % (5 + R) : Nat)⟩ else ⟨4, ((n - 16) / (5 + R) : Nat), (((n - 16) % (5 + R) : Nat) : Int) - 5⟩) := by
              unfold spotAt; rw [if_neg (by omega), if_neg (by omega), if_neg (by omega), if_neg (by omega), if_pos (by omega)]
            rw [ev]
            clear ev es
            have hdl : (n - 16) / (5 + R) ≤ n - 16 := Nat.div_le_self _ _
            have hml := Nat.mod_lt (n - 16) (show 0 < 5 + R by omega)
            have hR2 := h.2.2.2.2.2
            revert hdl hml
            generalize (n - 16) % (5 + R) = q
            generalize (n - 16) / (5 + R) = d
            intro hdl hml
            by_cases c5 : q < 5
            · rw [if_pos c5]
              refine itp (by omega) ?_
              rw [w64 (by omega) (by omega)]
            · rw [if_neg c5]
              refine itn (by omega) ?_
              rw [w64 (x := (d : Int)) (by omega) (by omega), w64 (by omega) (by omega)]
          · refine itn ct (bnd ht ?_)
            have w1 : wrap64 ((tb T R : Int) + wrap64 (3 * (P : Int))) = tb T R + 3 * P := by rw [w64 (x := 3 * (P : Int)) (by omega) (by omega), w64 (by omega) (by omega)]
            rw [w1]
            clear w1
            by_cases cp : (n : Int) < (tb T R : Int) + 3 * P
            · refine itp cp (bnd ht (itn (by omega) ?_))
              have w2 : wrap64 ((n : Int) - (tb T R : Int)) = ((n - tb T R : Nat) : Int) := by rw [w64 (by omega) (by omega)]; omega
              rw [w2, tm (by omega), td (by omega)]
              clear w2
              have em : ((n - tb T R : Nat) : Int) % (P : Int) = (((n - tb T R) % P : Nat) : Int) := rfl
              have ed : ((n - tb T R : Nat) : Int) / (P : Int) = (((n - tb T R) / P : Nat) : Int) := rfl
              rw [em, ed]
              clear em ed es
              by_cases q0 : n < tb T R + P
              · have ev : spotAt P T R n = ⟨5, (n : Int) - tb T R, 0⟩ := by
                  unfold spotAt; rw [if_neg (by omega), if_neg (by omega), if_neg (by omega), if_neg (by omega), if_neg (by omega), if_pos (by omega)]
                rw [ev, Nat.mod_eq_of_lt (by omega), Nat.div_eq_of_lt (by omega), w64 (x := ((0 : Nat) : Int)) (by omega) (by omega), w64 (by omega) (by omega)]
                congr 1; rw [Prod.mk.injEq, Prod.mk.injEq]; refine ⟨?_, ?_, rfl⟩ <;> dsimp only <;> omega
              · by_cases q1 : n < tb T R + 2 * P
                · have e1 : n - tb T R = (n - tb T R - P) + P * 1 := by omega
                  have ev : spotAt P T R n = ⟨6, (n : Int) - tb T R - P, 0⟩ := by
                    unfold spotAt; rw [if_neg (by omega), if_neg (by omega), if_neg (by omega), if_neg (by omega), if_neg (by omega), if_neg (by omega), if_pos (by omega)]
                  rw [ev, e1, Nat.add_mul_mod_self_left, Nat.add_mul_div_left _ _ (by omega), Nat.mod_eq_of_lt (by omega), Nat.div_eq_of_lt (by omega), w64 (x := ((0 + 1 : Nat) : Int)) (by omega) (by omega), w64 (by omega) (by omega)]
                  congr 1; rw [Prod.mk.injEq, Prod.mk.injEq]; refine ⟨?_, ?_, rfl⟩ <;> dsimp only <;> omega
                · have e1 : n - tb T R = (n - tb T R - 2 * P) + P * 2 := by omega
                  have ev : spotAt P T R n = ⟨7, (n : Int) - tb T R - 2 * P, 0⟩ := by
                    unfold spotAt; rw [if_neg (by omega), if_neg (by omega), if_neg (by omega), if_neg (by omega), if_neg (by omega), if_neg (by omega), if_neg (by omega), if_pos (by omega)]
                  rw [ev, e1, Nat.add_mul_mod_self_left, Nat.add_mul_div_left _ _ (by omega), Nat.mod_eq_of_lt (by omega), Nat.div_eq_of_lt (by omega), w64 (x := ((0 + 2 : Nat) : Int)) (by omega) (by omega), w64 (by omega) (by omega)]
                  congr 1; rw [Prod.mk.injEq, Prod.mk.injEq]; refine ⟨?_, ?_, rfl⟩ <;> dsimp only <;> omega
            · refine itn cp ?_
              by_cases cb : n < bs P T R
              · have ev : spotAt P T R n = ⟨0, 0, 0⟩ := by
                  unfold spotAt; rw [if_neg (by omega), if_neg (by omega), if_neg (by omega), if_neg (by omega), if_neg (by omega), if_neg (by omega), if_neg (by omega), if_neg (by omega), if_pos (by omega)]
                rw [ev]
                have hpl := p_place h hi
                rw [if_neg (show ¬ ((bs P T R : Int) ≤ (n : Int) ∧ (n : Int) < (cl P T R : Int)) by omega)] at hpl
                exact bnd hpl (itp (show (-1 : Int) < 0 by omega) rfl)
              · have ev : spotAt P T R n = ⟨8, ((n - bs P T R) / 64 : Nat), ((n - bs P T R) % 64 : Nat)⟩ := by
                  unfold spotAt; rw [if_neg (by omega), if_neg (by omega), if_neg (by omega), if_neg (by omega), if_neg (by omega), if_neg (by omega), if_neg (by omega), if_neg (by omega), if_neg (by omega)]
                rw [ev]
                have hpl := p_place h hi
                rw [if_pos (show ((bs P T R : Int) ≤ (n : Int) ∧ (n : Int) < (cl P T R : Int)) by omega)] at hpl
                refine bnd hpl (itn (show ¬ (((n : Int) - bs P T R) / 64 < 0) by omega) ?_)
                clear hpl ev es
                congr 1
                rw [Prod.mk.injEq, Prod.mk.injEq]
                refine ⟨rfl, ?_, ?_⟩ <;> dsimp only <;> omega
end

theorem no_spots {a b c : Int} (h : windrowref06_Right.f a b c = some false) (k : Nat) : windrowref06_Spots.f k a b c = some [] := by
  unfold windrowref06_Spots.f; rw [h]; rfl
theorem no_find {a b c : Int} (h : windrowref06_Right.f a b c = some false) (k : Nat) (i : Int) : windrowref06_Find.f k a b c i = some (0, 0, 0) := by
  unfold windrowref06_Find.f
  refine bnd (no_spots h k) ?_
  by_cases h0 : i < 0
  · exact itp h0 rfl
  · exact itn h0 (itp (by simp; omega) rfl)
theorem no_rplace {a b c : Int} (h : windrowref06_Right.f a b c = some false) (k : Nat) (i : Int) : windrowref06_Place.f k a b c i = some (-1, -1) := by
  unfold windrowref06_Place.f
  exact bnd (no_find h k i) rfl
theorem no_pfind {a b c : Int} (h : layout_Plan_right.f a b c = some false) (k : Nat) (i : Int) : layout_Plan_Find.f (k + 1) a b c i = some (0, 0, 0) := by
  unfold layout_Plan_Find.f
  refine bnd h (itn Bool.false_ne_true ?_)
  rw [layout_Plan_Find.j0]
  exact itp rfl rfl

theorem beq3 (a b c : Int) : (a == a && (b == b && (c == c))) = true := by simp

theorem LayoutFinds : windrowlaw06_LayoutFinds.Pure := by
  intro a b c i w _ _ _ hi hw
  obtain ⟨hi0, hi1⟩ := bounds_i64 hi
  obtain ⟨hw0, hw1⟩ := bounds_u64 hw
  rcases right_cases a b c with ⟨P, T, R, rfl, rfl, rfl, h⟩ | ⟨h1, h2⟩
  · have hl := cl_le h
    obtain ⟨K1, e1⟩ := r_place h i
    obtain ⟨K2, e2⟩ := r_place h (wrap64 w)
    obtain ⟨K3, e3⟩ := r_find h i
    obtain ⟨k, hk1, hk2, hk3⟩ : ∃ k, K1 ≤ k + 3 ∧ K2 ≤ k + 3 ∧ K3 ≤ k + 2 := ⟨K1 + K2 + K3, by omega, by omega, by omega⟩
    refine ⟨k + 3, ?_⟩
    replace e1 := e1 _ hk1
    replace e2 := e2 _ hk2
    replace e3 := e3 _ hk3
    have hp := p_place h ⟨hi0, hi1⟩
    have hf := p_find h i ⟨hi0, hi1⟩ k
    have hr := p_ref h hw0
    unfold windrowlaw06_LayoutFinds.f windrowlaw06_plan.f
    refine bnd rfl (bnd hp (bnd e1 ?_))
    by_cases cw : w < 65536
    · refine itp cw (bnd e2 ?_)
      rw [windrowlaw06_LayoutFinds.j0]
      refine bnd laid_true (itp rfl (bnd hf (bnd rfl (bnd e3 (itp (beq3 _ _ _) (itp rfl (itp rfl (bnd hr ?_))))))))
      have ew : wrap64 w = w := w64 (by omega) (by omega)
      rw [ew]
      clear ew e2 hr
      congr 1
      rw [beq_iff_eq]
      by_cases hc : (bs P T R : Int) ≤ w ∧ w < cl P T R
      · rw [if_pos hc, decide_eq_true hc]
        symm
        rw [decide_eq_true_eq]
        show (w - bs P T R) / 64 ≥ 0
        omega
      · rw [if_neg hc, decide_eq_false hc]
        rfl
    · refine itn cw ?_
      rw [windrowlaw06_LayoutFinds.j0]
      refine bnd laid_true (itp rfl (bnd hf (bnd rfl (bnd e3 (itp (beq3 _ _ _) (itp rfl (itp rfl (bnd hr ?_))))))))
      rw [decide_eq_false (show ¬ ((bs P T R : Int) ≤ w ∧ w < cl P T R) by clear e2 hr hp hf e1 e3; omega)]
      rfl
  · refine ⟨2, ?_⟩
    unfold windrowlaw06_LayoutFinds.f windrowlaw06_plan.f
    refine bnd rfl (bnd (no_place h2) (bnd (no_rplace h1 _ _) ?_))
    by_cases cw : w < 65536
    · refine itp cw (bnd (no_rplace h1 _ _) ?_)
      rw [windrowlaw06_LayoutFinds.j0]
      exact bnd laid_true (itp rfl (bnd (no_pfind h2 0 _) (bnd rfl (bnd (no_find h1 _ _) (itp rfl (itp rfl (itp rfl (bnd (no_ref h2) rfl))))))))
    · refine itn cw ?_
      rw [windrowlaw06_LayoutFinds.j0]
      exact bnd laid_true (itp rfl (bnd (no_pfind h2 0 _) (bnd rfl (bnd (no_find h1 _ _) (itp rfl (itp rfl (itp rfl (bnd (no_ref h2) rfl))))))))
end Go.Proofs.Ytmbgfmdmihmgdaa.Pure
