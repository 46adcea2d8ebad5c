/- Headers and entries come back from their words; a word that is taken for one is just the word of it. For whatever header, entry and word. -/
import Derived.Test.YtjoejpkompaplaaHdD
import Derived.Test.YtjoejpkompaplaaPAllx14
namespace Go.Proofs.Ytjoejpkompaplaa.Pure
open Go.RowKit Go.Proofs.Ytjoejpkompaplaa.PAll Go.Proofs.YtjoejpkompaplaaW.PrintWords Go.Proofs.YtjoejpkompaplaaW.PrintLast
open Go.Proofs.Ytjoejpkompaplaa.Eo Go.Proofs.Ytjoejpkompaplaa.Wd Go.Proofs.Ytjoejpkompaplaa.Hd
set_option linter.unusedVariables false
set_option linter.unusedSimpArgs false

theorem j2_true (m : Nat) {w : Int} (hW : W w) : windrowlaw02_HeaderBack.j2 (m + 8) w = some true := by
  rw [windrowlaw02_HeaderBack.j2]
  refine bnd (decEntry_eq m hW) ?_
  unfold decE
  by_cases h : entryP (w % 4) (w / 4 % 16) (w / 64 % 4) (w / 256 % 16) (w / 65536 % 4294967296) ∧ entryW (w % 4) (w / 4 % 16) (w / 64 % 4) (w / 256 % 16) (w / 65536 % 4294967296) = w
  · rw [if_pos h]
    refine itp rfl (bnd (encEntry_eq m _ _ _ _ _) ?_)
    show (if (if entryP (w % 4) (w / 4 % 16) (w / 64 % 4) (w / 256 % 16) (w / 65536 % 4294967296) then (entryW (w % 4) (w / 4 % 16) (w / 64 % 4) (w / 256 % 16) (w / 65536 % 4294967296), (0 : Int)) else (0, 4)).2 = 0 then (if (if entryP (w % 4) (w / 4 % 16) (w / 64 % 4) (w / 256 % 16) (w / 65536 % 4294967296) then (entryW (w % 4) (w / 4 % 16) (w / 64 % 4) (w / 256 % 16) (w / 65536 % 4294967296), (0 : Int)) else (0, 4)).1 = w then some true else some false) else some false) = some true
    rw [if_pos h.1]
    exact itp rfl (itp h.2 rfl)
  · rw [if_neg h]
    exact itn (show ¬ ((4 : Int) = 0) by omega) rfl

theorem j1_true (m : Nat) {w : Int} (hW : W w) : windrowlaw02_HeaderBack.j1 (m + 9) w = some true := by
  rw [windrowlaw02_HeaderBack.j1]
  refine bnd (decHead_eq (m + 7) hW) ?_
  by_cases h : headP (w / 256 % 256) (w % 256) (w / 65536 % 256) ∧ headW (w / 256 % 256) (w % 256) (w / 65536 % 256) = w
  · rw [if_pos h]
    refine itp rfl (bnd (encHead_eq (m + 7) _ _ _) ?_)
    show (if (if headP (w / 256 % 256) (w % 256) (w / 65536 % 256) then (headW (w / 256 % 256) (w % 256) (w / 65536 % 256), (0 : Int)) else (0, 4)).2 = 0 then (if (if headP (w / 256 % 256) (w % 256) (w / 65536 % 256) then (headW (w / 256 % 256) (w % 256) (w / 65536 % 256), (0 : Int)) else (0, 4)).1 = w then windrowlaw02_HeaderBack.j2 (m + 8) w else some false) else some false) = some true
    rw [if_pos h.1]
    exact itp rfl (itp h.2 (j2_true m hW))
  · rw [if_neg h]
    exact itn (show ¬ ((4 : Int) = 0) by omega) (j2_true m hW)

theorem j0_true (m : Nat) {w k c s o y : Int} (hW : W w) : windrowlaw02_HeaderBack.j0 (m + 10) w k c s o y = some true := by
  rw [windrowlaw02_HeaderBack.j0]
  refine bnd (encEntry_eq (m + 2) _ _ _ _ _) ?_
  by_cases h : entryP k c s o y
  · rw [if_pos h]
    obtain ⟨h1, h2, h3, h4, h5, h6⟩ := entryW_back h
    refine itp rfl (bnd (decEntry_eq (m + 2) h1) ?_)
    have e : decE (entryW k c s o y) = (k, c, s, o, y, 0) := by
      unfold decE
      rw [h2, h3, h4, h5, h6, if_pos ⟨h, rfl⟩]
    rw [e]
    exact itp rfl (itn (by simp) (j1_true m hW))
  · rw [if_neg h]
    exact itn (show ¬ ((4 : Int) = 0) by omega) (j1_true m hW)

theorem HeaderBack : windrowlaw02_HeaderBack.Pure := by
  intro c k l ek ec es eo ey w _ _ hl _ _ _ _ _ hw
  have hl' := bounds_i64 hl
  obtain ⟨hw0, hw1⟩ := bounds_u64 hw
  have hW : W w := ⟨hw0, by omega⟩
  refine ⟨10, ?_⟩
  unfold windrowlaw02_HeaderBack.f
  refine bnd (headed_true 3) (itp rfl (bnd (encHead_eq 9 _ _ _) ?_))
  by_cases h : headP c k l
  · rw [if_pos h]
    obtain ⟨h1, h2, h3, h4⟩ := headW_back h
    have hd := decHead_eq 9 h1
    rw [h2, h3, h4, if_pos ⟨h, rfl⟩] at hd
    have hwd := words_eq 9 c k l hl'
    rw [if_pos h] at hwd
    refine itp rfl (bnd hd (itp rfl (itn (by simp) (bnd hwd (itp ?_ (j0_true 0 hW))))))
    unfold headP at h
    rw [w64 (by omega) (by omega)]
  · rw [if_neg h]
    exact itn (show ¬ ((4 : Int) = 0) by omega) (j0_true 0 hW)
end Go.Proofs.Ytjoejpkompaplaa.Pure
