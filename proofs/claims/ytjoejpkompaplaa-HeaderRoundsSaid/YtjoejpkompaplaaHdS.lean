/- What is due, ready, taken, given, in plain numbers. -/
import Derived.Test.YtjoejpkompaplaaHdC
import Derived.Test.YtjoejpkompaplaaPAllx
namespace Go.Proofs.Ytjoejpkompaplaa.Hd
open Go.RowKit Go.Proofs.Ytjoejpkompaplaa.PAll Go.Proofs.YtjoejpkompaplaaW.PrintWords Go.Proofs.YtjoejpkompaplaaW.PrintLast Go.Proofs.YtjoejpkompaplaaW.PrintMore
open Go.Proofs.Ytjoejpkompaplaa.Eo Go.Proofs.Ytjoejpkompaplaa.Wd
set_option linter.unusedVariables false
set_option linter.unusedSimpArgs false

abbrev six := Int × Int × Int × Int × Int × Int
abbrev takenE (k c s o y st ow : Int) : six := if entryP k c s o y ∧ entryP k c st ow y then (k, c, st, ow, y, 0) else (0, 0, 0, 0, 0, 4)
abbrev givenE (k c s o y cy : Int) : six := if entryP k c s o y ∧ (k = 1 ∨ k = 2) ∧ entryP k c 0 0 cy then (k, c, 0, 0, cy, 0) else (0, 0, 0, 0, 0, 4)
abbrev dueE (k c s o y cy : Int) : Bool := decide (entryP k c s o y ∧ (k = 1 ∨ k = 2) ∧ s = 0 ∧ y < cy)
abbrev readyE (k c s o y cl cy : Int) : Bool := decide (entryP k c s o y ∧ k = 1 ∧ s = 0 ∧ c = cl ∧ y = cy)

theorem dt {p : Prop} [Decidable p] (h : p) : decide p = true := decide_eq_true h
theorem df {p : Prop} [Decidable p] (h : ¬ p) : ¬ (decide p = true) := by rw [decide_eq_true_eq]; exact h

theorem taken_eq (n : Nat) (k c s o y st ow : Int) : header_Entry_Taken.f (n + 1) k c s o y st ow = some (takenE k c s o y st ow) := by
  unfold header_Entry_Taken.f
  refine bnd (eright_eq n _ _ _ _ _) ?_
  by_cases h : entryP k c s o y
  · refine itp (dt h) (bnd (eright_eq n _ _ _ _ _) ?_)
    by_cases h2 : entryP k c st ow y
    · have e : takenE k c s o y st ow = (k, c, st, ow, y, 0) := if_pos ⟨h, h2⟩
      rw [e]; exact itp (dt h2) rfl
    · have e : takenE k c s o y st ow = (0, 0, 0, 0, 0, 4) := if_neg (fun z => h2 z.2)
      rw [e]; exact itn (df h2) rfl
  · have e : takenE k c s o y st ow = (0, 0, 0, 0, 0, 4) := if_neg (fun z => h z.1)
    rw [e]; exact itn (df h) rfl
theorem given_eq (n : Nat) (k c s o y cy : Int) : header_Entry_Given.f (n + 1) k c s o y cy = some (givenE k c s o y cy) := by
  unfold header_Entry_Given.f
  refine bnd (eright_eq n _ _ _ _ _) ?_
  by_cases h : entryP k c s o y
  · refine itp (dt h) ?_
    by_cases h2 : entryP k c 0 0 cy
    · by_cases hk1 : k = 1
      · have e : givenE k c s o y cy = (k, c, 0, 0, cy, 0) := if_pos ⟨h, .inl hk1, h2⟩
        rw [e]; exact itp hk1 (bnd (eright_eq n _ _ _ _ _) (itp (dt h2) rfl))
      · by_cases hk2 : k = 2
        · have e : givenE k c s o y cy = (k, c, 0, 0, cy, 0) := if_pos ⟨h, .inr hk2, h2⟩
          rw [e]; exact itn hk1 (itp hk2 (bnd (eright_eq n _ _ _ _ _) (itp (dt h2) rfl)))
        · have e : givenE k c s o y cy = (0, 0, 0, 0, 0, 4) := if_neg (fun z => z.2.1.elim hk1 hk2)
          rw [e]; exact itn hk1 (itn hk2 rfl)
    · have e : givenE k c s o y cy = (0, 0, 0, 0, 0, 4) := if_neg (fun z => h2 z.2.2)
      rw [e]
      by_cases hk1 : k = 1
      · exact itp hk1 (bnd (eright_eq n _ _ _ _ _) (itn (df h2) rfl))
      · by_cases hk2 : k = 2
        · exact itn hk1 (itp hk2 (bnd (eright_eq n _ _ _ _ _) (itn (df h2) rfl)))
        · exact itn hk1 (itn hk2 rfl)
  · have e : givenE k c s o y cy = (0, 0, 0, 0, 0, 4) := if_neg (fun z => h z.1)
    rw [e]; exact itn (df h) rfl
theorem due_body {k c s o y cy : Int} {x : Option Bool} (hx : x = (if decide (entryP k c s o y) = true then (if k = 1 then (if s = 0 then (some (decide (y < cy))) else (some false)) else (if k = 2 then (if s = 0 then (some (decide (y < cy))) else (some false)) else (some false))) else (some false))) : x = some (dueE k c s o y cy) := by
  subst hx
  by_cases h : entryP k c s o y
  · refine itp (dt h) ?_
    by_cases hk1 : k = 1
    · refine itp hk1 ?_
      by_cases hs : s = 0
      · refine itp hs ?_
        congr 1; exact decide_eq_decide.mpr ⟨fun z => ⟨h, .inl hk1, hs, z⟩, fun z => z.2.2.2⟩
      · refine itn hs ?_
        congr 1; exact (decide_eq_false (fun z => hs z.2.2.1)).symm
    · refine itn hk1 ?_
      by_cases hk2 : k = 2
      · refine itp hk2 ?_
        by_cases hs : s = 0
        · refine itp hs ?_
          congr 1; exact decide_eq_decide.mpr ⟨fun z => ⟨h, .inr hk2, hs, z⟩, fun z => z.2.2.2⟩
        · refine itn hs ?_
          congr 1; exact (decide_eq_false (fun z => hs z.2.2.1)).symm
      · refine itn hk2 ?_
        congr 1; exact (decide_eq_false (fun z => z.2.1.elim hk1 hk2)).symm
  · refine itn (df h) ?_
    congr 1; exact (decide_eq_false (fun z => h z.1)).symm
theorem due_eq (n : Nat) (k c s o y cy : Int) : header_Entry_Due.f (n + 1) k c s o y cy = some (dueE k c s o y cy) :=
  due_body (by unfold header_Entry_Due.f; exact bnd (eright_eq n _ _ _ _ _) rfl)
theorem ready_body {k c s o y cl cy : Int} {x : Option Bool} (hx : x = (if decide (entryP k c s o y) = true then (if k = 1 then (if s = 0 then (if c = cl then (some (y == cy)) else (some false)) else (some false)) else (some false)) else (some false))) : x = some (readyE k c s o y cl cy) := by
  subst hx
  by_cases h : entryP k c s o y
  · refine itp (dt h) ?_
    by_cases hk1 : k = 1
    · refine itp hk1 ?_
      by_cases hs : s = 0
      · refine itp hs ?_
        by_cases hc : c = cl
        · refine itp hc ?_
          congr 1
          rw [Bool.eq_iff_iff, beq_iff_eq, decide_eq_true_eq]
          exact ⟨fun z => ⟨h, hk1, hs, hc, z⟩, fun z => z.2.2.2.2⟩
        · refine itn hc ?_
          congr 1; exact (decide_eq_false (fun z => hc z.2.2.2.1)).symm
      · refine itn hs ?_
        congr 1; exact (decide_eq_false (fun z => hs z.2.2.1)).symm
    · refine itn hk1 ?_
      congr 1; exact (decide_eq_false (fun z => hk1 z.2.1)).symm
  · refine itn (df h) ?_
    congr 1; exact (decide_eq_false (fun z => h z.1)).symm
theorem ready_eq (n : Nat) (k c s o y cl cy : Int) : header_Entry_Ready.f (n + 1) k c s o y cl cy = some (readyE k c s o y cl cy) :=
  ready_body (by unfold header_Entry_Ready.f; exact bnd (eright_eq n _ _ _ _ _) rfl)
end Go.Proofs.Ytjoejpkompaplaa.Hd
