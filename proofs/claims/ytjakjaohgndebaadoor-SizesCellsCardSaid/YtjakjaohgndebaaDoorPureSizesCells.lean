/- The cell, the room, the first free one, and whether the bits may be, are what the chapter says. For whatever class, word and bits. -/
import Derived.Test.YtjakjaohgndebaaDoorSzB
namespace Go.Proofs.YtjakjaohgndebaaDoor.Pure
open Go Go.RowKit Go.Proofs.YtjakjaohgndebaaDoor.PAll Go.Proofs.YtjakjaohgndebaaDoorW.PrintWords Go.Proofs.YtjakjaohgndebaaDoorW.PrintLast Go.Proofs.YtjakjaohgndebaaDoorW.PrintMore
open Go.Proofs.YtjakjaohgndebaaDoor.Eo Go.Proofs.YtjakjaohgndebaaDoor.Wd Go.Proofs.YtjakjaohgndebaaDoor.Bt Go.Proofs.YtjakjaohgndebaaDoor.Wp Go.Proofs.YtjakjaohgndebaaDoor.Sz
set_option linter.unusedVariables false
set_option linter.unusedSimpArgs false

theorem SizesCells : windrowlaw05_SizesCells.Pure := by
  intro a b al _ _ hal
  replace hal := wfW hal
  obtain ⟨r1, e1, K1, h1⟩ := cells_eo a b
  obtain ⟨r2, e2, K2, h2⟩ := firsts_eo hal a b
  obtain ⟨r3, e3, K3, h3⟩ := valids_eo hal a
  have hroom : ∃ (n : Int) (L : List Int), sizes_Room.f a al = some n ∧ Eo (fun k => windrowref05_Free.f k a al) L ∧ n = (L.length : Int) := by
    by_cases ha : 0 ≤ a ∧ a < 8
    · exact ⟨_, _, room_yes ha hal, free_yes ha hal, by rw [pl_len]; rfl⟩
    · exact ⟨_, _, room_no al ha, free_no al ha, rfl⟩
  obtain ⟨n, L, e4, ⟨K4, h4⟩, e5⟩ := hroom
  refine ⟨K1 + K2 + K3 + K4, ?_⟩
  unfold windrowlaw05_SizesCells.f
  exact bnd sized_eq (itp rfl (bnd e1 (bnd (h1 _ (by omega)) (itp rfl (bnd e4 (bnd (h4 _ (by omega)) (itp e5 (bnd e2 (bnd (h2 _ (by omega)) (itp rfl (bnd e3 (bnd (h3 _ (by omega)) (by simp)))))))))))))
end Go.Proofs.YtjakjaohgndebaaDoor.Pure
