/- Entries come back; what is due, ready, taken, given; in plain numbers. -/
import Derived.Test.YtjoejpkompaplaaHdC
import Derived.Test.YtjoejpkompaplaaPAllx12
import Derived.Test.YtjoejpkompaplaaPAllx13
namespace Go.Proofs.Ytjoejpkompaplaa.Hd
open Go.RowKit Go.Proofs.Ytjoejpkompaplaa.PAll Go.Proofs.YtjoejpkompaplaaW.PrintWords Go.Proofs.YtjoejpkompaplaaW.PrintLast Go.Proofs.YtjoejpkompaplaaW.PrintMore
open Go.Proofs.Ytjoejpkompaplaa.Eo Go.Proofs.Ytjoejpkompaplaa.Wd
set_option linter.unusedVariables false
set_option linter.unusedSimpArgs false

abbrev decE (w : Int) : Int × Int × Int × Int × Int × Int := if entryP (w % 4) (w / 4 % 16) (w / 64 % 4) (w / 256 % 16) (w / 65536 % 4294967296) ∧ entryW (w % 4) (w / 4 % 16) (w / 64 % 4) (w / 256 % 16) (w / 65536 % 4294967296) = w then (w % 4, w / 4 % 16, w / 64 % 4, w / 256 % 16, w / 65536 % 4294967296, 0) else (0, 0, 0, 0, 0, 4)

theorem decEntry_eq (n : Nat) {w : Int} (hw : W w) : header_DecodeEntry.f (n + 7) w = some (decE w) := by
  have h := unpack6 n hw
  rw [Int.ediv_one] at h
  have a0 : wrap64 (rd [w % 4, w / 4 % 16, w / 64 % 4, w / 256 % 16, w / 4096 % 16, w / 65536 % 4294967296] 0) = w % 4 := w64 (x := w % 4) (by omega) (by omega)
  have a1 : wrap64 (rd [w % 4, w / 4 % 16, w / 64 % 4, w / 256 % 16, w / 4096 % 16, w / 65536 % 4294967296] 1) = w / 4 % 16 := w64 (x := w / 4 % 16) (by clear a0; omega) (by clear a0; omega)
  have a2 : wrap64 (rd [w % 4, w / 4 % 16, w / 64 % 4, w / 256 % 16, w / 4096 % 16, w / 65536 % 4294967296] 2) = w / 64 % 4 := w64 (x := w / 64 % 4) (by clear a0 a1; omega) (by clear a0 a1; omega)
  have a3 : wrap64 (rd [w % 4, w / 4 % 16, w / 64 % 4, w / 256 % 16, w / 4096 % 16, w / 65536 % 4294967296] 3) = w / 256 % 16 := w64 (x := w / 256 % 16) (by clear a0 a1 a2; omega) (by clear a0 a1 a2; omega)
  have a5 : wrap64 (rd [w % 4, w / 4 % 16, w / 64 % 4, w / 256 % 16, w / 4096 % 16, w / 65536 % 4294967296] 5) = w / 65536 % 4294967296 := w64 (x := w / 65536 % 4294967296) (by clear a0 a1 a2 a3; omega) (by clear a0 a1 a2 a3; omega)
  unfold header_DecodeEntry.f
  refine bnd h (itp (by simp) (itp (by simp) (itp (by simp) (itp (by simp) (itp (by simp) ?_)))))
  show ((header_EncodeEntry.f (n + 7) (wrap64 (rd [w % 4, w / 4 % 16, w / 64 % 4, w / 256 % 16, w / 4096 % 16, w / 65536 % 4294967296] 0)) (wrap64 (rd [w % 4, w / 4 % 16, w / 64 % 4, w / 256 % 16, w / 4096 % 16, w / 65536 % 4294967296] 1)) (wrap64 (rd [w % 4, w / 4 % 16, w / 64 % 4, w / 256 % 16, w / 4096 % 16, w / 65536 % 4294967296] 2)) (wrap64 (rd [w % 4, w / 4 % 16, w / 64 % 4, w / 256 % 16, w / 4096 % 16, w / 65536 % 4294967296] 3)) (wrap64 (rd [w % 4, w / 4 % 16, w / 64 % 4, w / 256 % 16, w / 4096 % 16, w / 65536 % 4294967296] 5))).bind fun bt338 => (if bt338.2 = 0 then (if bt338.1 = w then (some (wrap64 (rd [w % 4, w / 4 % 16, w / 64 % 4, w / 256 % 16, w / 4096 % 16, w / 65536 % 4294967296] 0), wrap64 (rd [w % 4, w / 4 % 16, w / 64 % 4, w / 256 % 16, w / 4096 % 16, w / 65536 % 4294967296] 1), wrap64 (rd [w % 4, w / 4 % 16, w / 64 % 4, w / 256 % 16, w / 4096 % 16, w / 65536 % 4294967296] 2), wrap64 (rd [w % 4, w / 4 % 16, w / 64 % 4, w / 256 % 16, w / 4096 % 16, w / 65536 % 4294967296] 3), wrap64 (rd [w % 4, w / 4 % 16, w / 64 % 4, w / 256 % 16, w / 4096 % 16, w / 65536 % 4294967296] 5), 0)) else (some (0, 0, 0, 0, 0, 4))) else (some (0, 0, 0, 0, 0, 4)))) = some (decE w)
  rw [a0, a1, a2, a3, a5]
  clear a0 a1 a2 a3 a5 h
  have e0 := encEntry_eq n (w % 4) (w / 4 % 16) (w / 64 % 4) (w / 256 % 16) (w / 65536 % 4294967296)
  by_cases h : entryP (w % 4) (w / 4 % 16) (w / 64 % 4) (w / 256 % 16) (w / 65536 % 4294967296)
  · rw [if_pos h] at e0
    by_cases e : entryW (w % 4) (w / 4 % 16) (w / 64 % 4) (w / 256 % 16) (w / 65536 % 4294967296) = w
    · have eD : decE w = (w % 4, w / 4 % 16, w / 64 % 4, w / 256 % 16, w / 65536 % 4294967296, 0) := if_pos ⟨h, e⟩
      rw [eD]; exact bnd e0 (itp rfl (itp e rfl))
    · have eD : decE w = (0, 0, 0, 0, 0, 4) := if_neg (fun z => e z.2)
      rw [eD]; exact bnd e0 (itp rfl (itn e rfl))
  · rw [if_neg h] at e0
    have eD : decE w = (0, 0, 0, 0, 0, 4) := if_neg (fun z => h z.1)
    rw [eD]; exact bnd e0 (itn (show ¬ ((4 : Int) = 0) by omega) rfl)

theorem rdecEntry_eq (n : Nat) {w : Int} (hw : W w) : windrowref02_DecodeEntry.f (n + 3) w = some (decE w) := by
  have hw1 := hw.1
  have hw2 := hw.2
  unfold windrowref02_DecodeEntry.f
  rw [td (a := w) (b := 4) hw1, td (a := w) (b := 64) hw1, td (a := w) (b := 256) hw1, td (a := w) (b := 65536) hw1, u64i (x := w / 4) (by omega) (by omega), u64i (x := w / 64) (by omega) (by omega), u64i (x := w / 256) (by omega) (by omega), u64i (x := w / 65536) (by omega) (by omega), tm (a := w) hw1, tm (a := w / 4) (by omega), tm (a := w / 64) (by omega), tm (a := w / 256) (by omega), tm (a := w / 65536) (by omega)]
  rw [w64 (x := w % 4) (by omega) (by omega), w64 (x := w / 4 % 16) (by omega) (by omega), w64 (x := w / 64 % 4) (by omega) (by omega), w64 (x := w / 256 % 16) (by omega) (by omega), w64 (x := w / 65536 % 4294967296) (by omega) (by omega)]
  have e0 := rencEntry_eq n (w % 4) (w / 4 % 16) (w / 64 % 4) (w / 256 % 16) (w / 65536 % 4294967296)
  by_cases h : entryP (w % 4) (w / 4 % 16) (w / 64 % 4) (w / 256 % 16) (w / 65536 % 4294967296)
  · rw [if_pos h] at e0
    by_cases e : entryW (w % 4) (w / 4 % 16) (w / 64 % 4) (w / 256 % 16) (w / 65536 % 4294967296) = w
    · have eD : decE w = (w % 4, w / 4 % 16, w / 64 % 4, w / 256 % 16, w / 65536 % 4294967296, 0) := if_pos ⟨h, e⟩
      rw [eD]; exact bnd e0 (itp rfl (itp e rfl))
    · have eD : decE w = (0, 0, 0, 0, 0, 4) := if_neg (fun z => e z.2)
      rw [eD]; exact bnd e0 (itp rfl (itn e rfl))
  · rw [if_neg h] at e0
    have eD : decE w = (0, 0, 0, 0, 0, 4) := if_neg (fun z => h z.1)
    rw [eD]; exact bnd e0 (itn (show ¬ ((4 : Int) = 0) by omega) rfl)

/-- A word that is a header's, an entry's, comes back. -/
theorem headW_back {c k l : Int} (h : headP c k l) : W (headW c k l) ∧ headW c k l / 256 % 256 = c ∧ headW c k l % 256 = k ∧ headW c k l / 65536 % 256 = l := by
  unfold headP at h
  unfold headW W
  omega
theorem entryW_back {k c s o y : Int} (h : entryP k c s o y) : W (entryW k c s o y) ∧ entryW k c s o y % 4 = k ∧ entryW k c s o y / 4 % 16 = c ∧ entryW k c s o y / 64 % 4 = s ∧ entryW k c s o y / 256 % 16 = o ∧ entryW k c s o y / 65536 % 4294967296 = y := by
  have hb : 0 ≤ k ∧ k < 4 ∧ 0 ≤ c ∧ c < 16 ∧ 0 ≤ s ∧ s < 4 ∧ 0 ≤ o ∧ o < 16 ∧ 0 ≤ y ∧ y < 4294967296 := by unfold entryP at h; omega
  clear h
  unfold entryW W
  omega
end Go.Proofs.Ytjoejpkompaplaa.Hd
