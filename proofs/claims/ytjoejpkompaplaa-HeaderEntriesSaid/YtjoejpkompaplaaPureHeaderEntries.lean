/- Every entry has the word that the chapter says, and every word the entry. For whatever entry of five numbers of the kind int, and word of the kind uint64. -/
import Derived.Test.YtjoejpkompaplaaHdD
namespace Go.Proofs.Ytjoejpkompaplaa.Pure
open Go.RowKit Go.Proofs.Ytjoejpkompaplaa.PAll Go.Proofs.YtjoejpkompaplaaW.PrintWords Go.Proofs.YtjoejpkompaplaaW.PrintLast
open Go.Proofs.Ytjoejpkompaplaa.Eo Go.Proofs.Ytjoejpkompaplaa.Wd Go.Proofs.Ytjoejpkompaplaa.Hd
set_option linter.unusedVariables false
set_option linter.unusedSimpArgs false

theorem beq5 (a b c d e : Int) : (a == a && (b == b && (c == c && (d == d && (e == e))))) = true := by simp

theorem HeaderEntries : windrowlaw02_HeaderEntries.Pure := by
  intro k c s o y w _ _ _ _ _ hw
  obtain ⟨hw0, hw1⟩ := bounds_u64 hw
  have hW : W w := ⟨hw0, by omega⟩
  refine ⟨10, ?_⟩
  unfold windrowlaw02_HeaderEntries.f windrowlaw02_entry.f
  exact bnd rfl (bnd (encEntry_eq 3 _ _ _ _ _) (bnd (rencEntry_eq 7 _ _ _ _ _) (bnd (decEntry_eq 3 hW) (bnd (rdecEntry_eq 7 hW) (bnd (headed_true 3) (itp rfl (itp rfl (itp rfl (bnd rfl (itp (beq5 _ _ _ _ _) (by simp)))))))))))
end Go.Proofs.Ytjoejpkompaplaa.Pure
