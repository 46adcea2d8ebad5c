/- Whether every entry is due or ready, and what it is when it is taken or given, is what the chapter says. For whatever entry and numbers of the kind int. -/
import Derived.Test.YtjoejpkompaplaaHdS
import Derived.Test.YtjoejpkompaplaaPAllx
namespace Go.Proofs.Ytjoejpkompaplaa.Pure
open Go.RowKit Go.Proofs.Ytjoejpkompaplaa.PAll Go.Proofs.YtjoejpkompaplaaW.PrintWords Go.Proofs.YtjoejpkompaplaaW.PrintLast
open Go.Proofs.Ytjoejpkompaplaa.Eo Go.Proofs.Ytjoejpkompaplaa.Wd Go.Proofs.Ytjoejpkompaplaa.Hd
set_option linter.unusedVariables false
set_option linter.unusedSimpArgs false

theorem beq5 (a b c d e : Int) : (a == a && (b == b && (c == c && (d == d && (e == e))))) = true := by simp

theorem HeaderStates : windrowlaw02_HeaderStates.Pure := by
  intro k c s o y cl cy st ow _ _ _ _ _ _ _ _ _
  refine ⟨10, ?_⟩
  unfold windrowlaw02_HeaderStates.f windrowlaw02_entry.f
  exact bnd rfl (bnd (taken_eq 9 _ _ _ _ _ _ _) (bnd (rtaken_eq 7 _ _ _ _ _ _ _) (bnd rfl (bnd (given_eq 9 _ _ _ _ _ _) (bnd (rgiven_eq 7 _ _ _ _ _ _) (bnd (headed_true 3) (itp rfl (bnd rfl (bnd (due_eq 9 _ _ _ _ _ _) (bnd (rdue_eq 7 _ _ _ _ _ _) (itp (by simp) (bnd rfl (bnd (ready_eq 9 _ _ _ _ _ _ _) (bnd (rready_eq 7 _ _ _ _ _ _ _) (itp (by simp) (bnd rfl (itp (beq5 _ _ _ _ _) (itp rfl (bnd rfl (itp (beq5 _ _ _ _ _) (by simp)))))))))))))))))))))
end Go.Proofs.Ytjoejpkompaplaa.Pure
