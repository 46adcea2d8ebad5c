/- What is a header, what an entry; their words; in plain numbers. -/
import Derived.Test.YtddkockeeodklaaWd
import Derived.Test.YtddkockeeodklaaPAllx
namespace Go.Proofs.Ytddkockeeodklaa.Hd
open Go.RowKit Go.Proofs.Ytddkockeeodklaa.PAll Go.Proofs.YtddkockeeodklaaW.PrintWords Go.Proofs.YtddkockeeodklaaW.PrintLast Go.Proofs.YtddkockeeodklaaW.PrintMore
open Go.Proofs.Ytddkockeeodklaa.Eo Go.Proofs.Ytddkockeeodklaa.Wd
set_option linter.unusedVariables false
set_option linter.unusedSimpArgs false
set_option linter.unusedSectionVars false

abbrev headP (c k l : Int) : Prop := 0 ≤ l ∧ l ≤ 255 ∧ ((k = 1 ∧ 0 ≤ c ∧ c ≤ 15 ∧ l ≤ 15) ∨ ((k = 2 ∨ k = 3) ∧ c = 0))
abbrev entryP (k c s o y : Int) : Prop :=
  (k = 0 ∧ c = 0 ∧ s = 0 ∧ o = 0 ∧ y = 0) ∨ (0 ≤ y ∧ y ≤ 4294967295 ∧ ((k = 3 ∧ 1 ≤ c ∧ c ≤ 3 ∧ s = 0 ∧ o = 0 ∧ y = 0) ∨ (((k = 1 ∧ 0 ≤ c ∧ c ≤ 7) ∨ (k = 2 ∧ 1 ≤ c ∧ c ≤ 4)) ∧ ((s = 0 ∧ o = 0) ∨ (s = 1 ∧ 0 ≤ o ∧ o ≤ 5 ∧ k = 1) ∨ (s = 2 ∧ ((0 ≤ o ∧ o ≤ 5) ∨ o = 15))))))

theorem td {a b : Int} (h : 0 ≤ a) : Int.tdiv a b = a / b := Int.tdiv_eq_ediv_of_nonneg h
theorem tm {a b : Int} (h : 0 ≤ a) : Int.tmod a b = a % b := Int.tmod_eq_emod_of_nonneg h

theorem right_j0 (n : Nat) (b : Bool) (c k l : Int) : header_Head_right.j0 (n + 1) b c k l = some (decide (b = false ∧ ((k = 1 ∧ 0 ≤ c ∧ c ≤ 15 ∧ l ≤ 15) ∨ ((k = 2 ∨ k = 3) ∧ c = 0)))) := by
  rw [header_Head_right.j0]
  cases b
  · rw [if_neg (by simp)]
    simp only [true_and]
    repeat' split
    all_goals (try simp only [decide_eq_true_eq] at *)
    all_goals first | rw [decide_eq_false (by omega)] | (congr 1; rw [Bool.eq_iff_iff]; simp only [decide_eq_true_eq, beq_iff_eq, Bool.and_eq_true, true_and]; omega)
  · simp

theorem right_eq (n : Nat) (c k l : Int) : header_Head_right.f (n + 1) c k l = some (decide (headP c k l)) := by
  unfold header_Head_right.f
  simp only [right_j0]
  unfold headP
  split
  · congr 1; rw [decide_eq_decide]; simp only [Bool.true_eq_false, false_and, false_iff]; omega
  · congr 1; rw [decide_eq_decide]; simp only [decide_eq_false_iff_not]; omega

abbrev ownerP (k s o : Int) : Prop := (s = 0 ∧ o = 0) ∨ (s = 1 ∧ 0 ≤ o ∧ o ≤ 5 ∧ k = 1) ∨ (s = 2 ∧ ((0 ≤ o ∧ o ≤ 5) ∨ o = 15))

theorem owner_j0 (n : Nat) (b : Bool) (k c s o y : Int) : header_Entry_owner.j0 (n + 1) b k c s o y = some (decide ((s = 0 ∧ o = 0) ∨ (s = 1 ∧ b = true ∧ k = 1) ∨ (s = 2 ∧ (b = true ∨ o = 15)))) := by
  rw [header_Entry_owner.j0]
  cases b
  · simp only [Bool.false_eq_true, false_and, and_false, false_or, if_false]
    repeat' split
    all_goals (try simp only [decide_eq_true_eq] at *)
    all_goals first | rw [decide_eq_false (by omega)] | (congr 1; rw [Bool.eq_iff_iff]; simp only [decide_eq_true_eq, beq_iff_eq, Bool.and_eq_true, true_and]; omega)
  · simp only [true_and, true_or, and_true, if_true]
    repeat' split
    all_goals first | rw [decide_eq_true (by omega)] | rw [decide_eq_false (by omega)] | (congr 1; rw [Bool.eq_iff_iff]; simp only [decide_eq_true_eq, beq_iff_eq]; omega)

theorem owner_eq (n : Nat) (k c s o y : Int) : header_Entry_owner.f (n + 1) k c s o y = some (decide (ownerP k s o)) := by
  unfold header_Entry_owner.f
  simp only [owner_j0]
  unfold ownerP
  split
  · congr 1; rw [decide_eq_decide]; simp only [decide_eq_true_eq]; omega
  · congr 1; rw [decide_eq_decide]; simp only [Bool.false_eq_true, false_and, and_false, false_or]; omega

theorem eright_j0 (n : Nat) (b : Bool) (k c s o y : Int) : header_Entry_right.j0 (n + 1) b k c s o y = some (decide (b = false ∧ ((k = 1 ∧ 0 ≤ c ∧ c ≤ 7) ∨ (k = 2 ∧ 1 ≤ c ∧ c ≤ 4) ∨ (k = 3 ∧ 1 ≤ c ∧ c ≤ 3 ∧ s = 0 ∧ y = 0) ∨ (k = 0 ∧ c = 0 ∧ s = 0 ∧ o = 0 ∧ y = 0)))) := by
  rw [header_Entry_right.j0]
  cases b
  · rw [if_neg (by simp)]
    simp only [true_and]
    repeat' split
    all_goals (try simp only [decide_eq_true_eq] at *)
    all_goals first | rw [decide_eq_false (by omega)] | (congr 1; rw [Bool.eq_iff_iff]; simp only [decide_eq_true_eq, beq_iff_eq, Bool.and_eq_true, true_and]; omega)
  · simp

theorem eright_eq (n : Nat) (k c s o y : Int) : header_Entry_right.f (n + 1) k c s o y = some (decide (entryP k c s o y)) := by
  unfold header_Entry_right.f
  simp only [eright_j0, owner_eq, Option.bind_some]
  unfold entryP
  split
  · congr 1; rw [decide_eq_decide]; simp only [Bool.true_eq_false, false_and, false_iff]; omega
  · split
    · congr 1; rw [decide_eq_decide]; simp only [Bool.true_eq_false, false_and, false_iff]; omega
    · congr 1; rw [decide_eq_decide]; simp only [Bool.not_eq_false', decide_eq_true_eq, ownerP]; omega

end Go.Proofs.Ytddkockeeodklaa.Hd
