/- A page that is taken by somebody is neither due nor ready; given back it is ready in that cycle, and due in every later one. For whatever entry and numbers of the kind int. -/
import Derived.Test.YtjoejpkompaplaaHdS
import Derived.Test.YtjoejpkompaplaaPAllx
namespace Go.Proofs.Ytjoejpkompaplaa.Pure
open Go.RowKit Go.Proofs.Ytjoejpkompaplaa.PAll Go.Proofs.YtjoejpkompaplaaW.PrintWords Go.Proofs.YtjoejpkompaplaaW.PrintLast
open Go.Proofs.Ytjoejpkompaplaa.Eo Go.Proofs.Ytjoejpkompaplaa.Wd Go.Proofs.Ytjoejpkompaplaa.Hd
set_option linter.unusedVariables false
set_option linter.unusedSimpArgs false

theorem rj0_true (n : Nat) (k c ow y cy ot : Int) (h : entryP k c 2 ow y) : windrowlaw02_HeaderRounds.j0 (n + 5) cy ot false k c 2 ow y = some true := by
  rw [windrowlaw02_HeaderRounds.j0]
  refine itn Bool.false_ne_true (bnd (given_eq (n + 3) _ _ _ _ _ _) ?_)
  by_cases hg : entryP k c 2 ow y ∧ (k = 1 ∨ k = 2) ∧ entryP k c 0 0 cy
  · have e : givenE k c 2 ow y cy = (k, c, 0, 0, cy, 0) := if_pos hg
    rw [e]
    have hd : header_Entry_Due.f (n + 4) k c 0 0 cy cy = some false := by rw [due_eq (n + 3)]; congr 1; exact decide_eq_false (by omega)
    have hr : header_Entry_Ready.f (n + 4) k c 0 0 cy c cy = some (k == 1) := by
      rw [ready_eq (n + 3)]; congr 1; rw [Bool.eq_iff_iff, beq_iff_eq, decide_eq_true_eq]
      exact ⟨fun z => z.2.1, fun z => ⟨hg.2.2, z, rfl, rfl, rfl⟩⟩
    have hd2 : header_Entry_Due.f (n + 4) k c 0 0 cy ot = some (decide (cy < ot)) := by
      rw [due_eq (n + 3)]; congr 1
      exact decide_eq_decide.mpr ⟨fun z => z.2.2.2, fun z => ⟨hg.2.2, hg.2.1, rfl, z⟩⟩
    refine itp rfl (bnd hd (itn Bool.false_ne_true (bnd hr (itp (by simp) (bnd hd2 (itp (by simp) (bnd hd2 ?_)))))))
    by_cases hc : cy < ot
    · have hr2 : header_Entry_Ready.f (n + 4) k c 0 0 cy c ot = some false := by
        rw [ready_eq (n + 3)]; congr 1; exact decide_eq_false (fun z => by omega)
      exact itp (decide_eq_true hc) (bnd hr2 rfl)
    · exact itn (by rw [decide_eq_true_eq]; exact hc) rfl
  · have e : givenE k c 2 ow y cy = (0, 0, 0, 0, 0, 4) := if_neg hg
    rw [e]
    exact itn (show ¬ ((4 : Int) = 0) by omega) (by simp)

theorem HeaderRounds : windrowlaw02_HeaderRounds.Pure := by
  intro k c s o y ow cy ot _ _ _ _ _ _ _ _
  refine ⟨10, ?_⟩
  unfold windrowlaw02_HeaderRounds.f
  refine bnd (headed_true 3) (itp rfl (bnd (taken_eq 9 _ _ _ _ _ _ _) ?_))
  by_cases ht : entryP k c s o y ∧ entryP k c 2 ow y
  · have e : takenE k c s o y 2 ow = (k, c, 2, ow, y, 0) := if_pos ht
    rw [e]
    have hd : header_Entry_Due.f 10 k c 2 ow y cy = some false := by rw [due_eq 9]; congr 1; exact decide_eq_false (fun z => by have := z.2.2.1; omega)
    have hr : header_Entry_Ready.f 10 k c 2 ow y c cy = some false := by rw [ready_eq 9]; congr 1; exact decide_eq_false (fun z => by have := z.2.2.1; omega)
    refine itp rfl (bnd hd (itn Bool.false_ne_true (bnd hr (itn Bool.false_ne_true (itp rfl (itp rfl ?_))))))
    show windrowlaw02_HeaderRounds.j0 10 cy ot (y != y) k c 2 ow y = some true
    rw [bne_self_eq_false]
    exact rj0_true 5 k c ow y cy ot ht.2
  · have e : takenE k c s o y 2 ow = (0, 0, 0, 0, 0, 4) := if_neg ht
    rw [e]
    exact itn (show ¬ ((4 : Int) = 0) by omega) (by simp)
end Go.Proofs.Ytjoejpkompaplaa.Pure
