/- Every header has the word that the chapter says, and every word the header. For whatever header of three numbers of the kind int, and word of the kind uint64. -/
import Derived.Test.YtjoejpkompaplaaHdC
namespace Go.Proofs.Ytjoejpkompaplaa.Pure
open Go.RowKit Go.Proofs.Ytjoejpkompaplaa.PAll Go.Proofs.YtjoejpkompaplaaW.PrintWords Go.Proofs.YtjoejpkompaplaaW.PrintLast
open Go.Proofs.Ytjoejpkompaplaa.Eo Go.Proofs.Ytjoejpkompaplaa.Wd Go.Proofs.Ytjoejpkompaplaa.Hd
set_option linter.unusedVariables false
set_option linter.unusedSimpArgs false

theorem beq3 (a b c : Int) : (a == a && (b == b && (c == c))) = true := by simp

theorem HeaderHeads : windrowlaw02_HeaderHeads.Pure := by
  intro c k l w hc hk hl hw
  have hl' := bounds_i64 hl
  obtain ⟨hw0, hw1⟩ := bounds_u64 hw
  have hW : W w := ⟨hw0, by omega⟩
  refine ⟨10, ?_⟩
  unfold windrowlaw02_HeaderHeads.f windrowlaw02_head.f
  exact bnd rfl (bnd (encHead_eq 9 _ _ _) (bnd (rencHead_eq 2 _ _ _) (bnd (decHead_eq 9 hW) (bnd (rdecHead_eq 2 hW) (bnd (headed_true 3) (itp rfl (itp rfl (itp rfl (bnd rfl (itp (beq3 _ _ _) (itp rfl (bnd rfl (bnd (words_eq 9 _ _ _ hl') (bnd (rwords_eq _ _ _) (by simp)))))))))))))))
end Go.Proofs.Ytjoejpkompaplaa.Pure
