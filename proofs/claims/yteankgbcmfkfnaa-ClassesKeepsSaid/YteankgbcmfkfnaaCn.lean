/- Names: both sides tell the same. -/
import Derived.Test.YteankgbcmfkfnaaPHx2
import Derived.Test.YteankgbcmfkfnaaPHx4
import Derived.Test.YteankgbcmfkfnaaHp
namespace Go.Proofs.Yteankgbcmfkfnaa.Cl
open Go Go.RowKit Go.Proofs.Yteankgbcmfkfnaa.Hp Go.Proofs.Yteankgbcmfkfnaa.PH
open Go.Proofs.YteankgbcmfkfnaaW.PrintWords (bt)
set_option linter.unusedVariables false
set_option linter.unusedSimpArgs false

def letOk (c : Int) : Bool := decide ((97 ≤ c ∧ c ≤ 122) ∨ (65 ≤ c ∧ c ≤ 90))
def othOk (c : Int) : Bool := decide ((48 ≤ c ∧ c ≤ 57) ∨ c = 95)
def nmAt (s : ByteArray) (i : Nat) : Bool := letOk (bt s i) || (othOk (bt s i) && !decide (i = 0))
def nmF (s : ByteArray) : Nat → Nat → Bool
  | 0, _ => true
  | d + 1, i => nmAt s i && nmF s d (i + 1)
def nm (s : ByteArray) : Bool := !decide (s.size < 1 ∨ 16 < s.size) && nmF s s.size 0
theorem letter_eq (k : Nat) (c : Int) (b : Bool) : classes_letter.f (k + 4) c b = some (letOk c || (othOk c && !b)) := by
  unfold classes_letter.f letOk othOk
  by_cases h1 : c ≥ 97
  · rw [if_pos h1, show k + 4 = (k + 3) + 1 from rfl]
    simp only [classes_letter.j0]
    by_cases h2 : c ≤ 122
    · simp [h2, h1, classes_letter.j1]
    · rw [if_neg (by simpa using h2), if_pos (by omega), show k + 3 = (k + 2) + 1 from rfl]
      simp only [classes_letter.j1]
      rw [if_neg (by simp; omega), if_pos (by omega), show k + 2 = (k + 1) + 1 from rfl]
      simp only [classes_letter.j2]
      rw [if_neg (by simp; omega), if_neg (by omega), decide_eq_false (by omega), decide_eq_false (by omega)]
      rfl
  · rw [if_neg h1, show k + 4 = (k + 3) + 1 from rfl]
    simp only [classes_letter.j0]
    rw [if_neg (by decide)]
    by_cases h3 : c ≥ 65
    · rw [if_pos h3, show k + 3 = (k + 2) + 1 from rfl]
      simp only [classes_letter.j1]
      by_cases h4 : c ≤ 90
      · rw [if_pos (by simpa using h4), decide_eq_true (by omega)]
        rfl
      · rw [if_neg (by simpa using h4), if_pos (by omega), show k + 2 = (k + 1) + 1 from rfl]
        simp only [classes_letter.j2]
        rw [if_neg (by simp; omega)]
        by_cases h5 : c = 95
        · rw [if_pos h5, decide_eq_false (by omega), decide_eq_true (by omega)]
          rfl
        · rw [if_neg h5, decide_eq_false (by omega), decide_eq_false (by omega)]
          rfl
    · rw [if_neg h3, show k + 3 = (k + 2) + 1 from rfl]
      simp only [classes_letter.j1]
      rw [if_neg (by decide)]
      by_cases h6 : c ≥ 48
      · rw [if_pos h6, show k + 2 = (k + 1) + 1 from rfl]
        simp only [classes_letter.j2]
        by_cases h7 : c ≤ 57
        · rw [if_pos (by simpa using h7), decide_eq_false (by omega), decide_eq_true (by omega)]
          rfl
        · rw [if_neg (by simpa using h7), if_neg (by omega), decide_eq_false (by omega), decide_eq_false (by omega)]
          rfl
      · rw [if_neg h6, show k + 2 = (k + 1) + 1 from rfl]
        simp only [classes_letter.j2]
        rw [if_neg (by decide), if_neg (by omega), decide_eq_false (by omega), decide_eq_false (by omega)]
        rfl
theorem isName_l (s : ByteArray) (hs : s.size ≤ 16) : ∀ (d i : Nat), i + d = s.size → classes_IsName.l0 (d + 5) s (s.size : Int) (i : Int) = some (nmF s d i)
  | 0, i, h => by
    simp only [classes_IsName.l0]
    rw [if_neg (by omega)]
    rfl
  | d + 1, i, h => by
    rw [show d + 1 + 5 = (d + 5) + 1 from rfl, classes_IsName.l0, if_pos (by omega), if_pos (by omega), if_pos (by omega), show d + 5 = (d + 1) + 4 from rfl, letter_eq]
    have e : ((i : Int) == 0) = decide (i = 0) := by
      by_cases h0 : i = 0
      · simp [h0]
      · simp [h0]
    rw [e]
    simp only [Option.bind_some]
    show (if nmAt s i = true then classes_IsName.l0 (d + 1 + 4) s s.size (wrap64 ((i : Int) + 1)) else some false) = some (nmAt s i && nmF s d (i + 1))
    by_cases hn : nmAt s i = true
    · rw [if_pos hn, hn, show wrap64 ((i : Int) + 1) = ((i + 1 : Nat) : Int) by unfold wrap64; omega, show d + 1 + 4 = d + 5 from rfl, isName_l s hs d (i + 1) (by omega)]
      rfl
    · rw [if_neg hn]
      have : nmAt s i = false := by simpa using hn
      rw [this]
      rfl
theorem isName_eq (s : ByteArray) : classes_IsName.f 30 s = some (nm s) := by
  unfold classes_IsName.f nm
  by_cases h1 : s.size < 1
  · rw [if_pos (by omega), decide_eq_true (.inl h1)]
    rfl
  · rw [if_neg (by omega)]
    simp only [classes_IsName.j0]
    by_cases h2 : 16 < s.size
    · rw [if_pos (by simp; omega), decide_eq_true (.inr h2)]
      rfl
    · rw [if_neg (by simp; omega), decide_eq_false (by omega)]
      have hm := isName_l s (by omega) s.size 0 (by omega)
      have : ∀ j, classes_IsName.l0 (s.size + 5 + j) s s.size 0 = some (nmF s s.size 0) := by
        intro j
        induction j with
        | zero => exact hm
        | succ j ih => exact (classes_IsName.mono_l (s.size + 5 + j)).2 _ _ _ _ ih
      have h3 := this (29 - (s.size + 5))
      rw [show s.size + 5 + (29 - (s.size + 5)) = 29 by omega] at h3
      rw [h3]
      rfl
theorem name_step (s : ByteArray) (k i : Nat) (hi : i < s.size) (hs : s.size ≤ 16) : windrowref10_Name.l0 (k + 1) s (i : Int) = if nmAt s i = true then windrowref10_Name.l0 k s ((i + 1 : Nat) : Int) else some false := by
  have ew : wrap64 ((i : Int) + 1) = ((i + 1 : Nat) : Int) := by unfold wrap64; omega
  rw [windrowref10_Name.l0, if_pos (by omega), if_pos (by omega), ew]
  unfold nmAt letOk othOk
  generalize bt s (i : Int) = c
  by_cases h0 : i = 0
  · have h0' : (i : Int) = 0 := by omega
    simp only [h0', if_true]
    by_cases h1 : c ≥ 97 <;> by_cases h2 : c ≤ 122 <;> by_cases h3 : c ≥ 65 <;> by_cases h4 : c ≤ 90 <;> by_cases h5 : c ≥ 48 <;> by_cases h6 : c ≤ 57 <;> by_cases h7 : c = 95 <;>
      simp [h0, h1, h2, h3, h4, h5, h6, h7] <;> (try omega) <;> (try (split <;> first | rfl | omega))
  · have h0' : ¬ (i : Int) = 0 := by omega
    simp only [h0', if_false]
    by_cases h1 : c ≥ 97 <;> by_cases h2 : c ≤ 122 <;> by_cases h3 : c ≥ 65 <;> by_cases h4 : c ≤ 90 <;> by_cases h5 : c ≥ 48 <;> by_cases h6 : c ≤ 57 <;> by_cases h7 : c = 95 <;>
      simp [h0, h1, h2, h3, h4, h5, h6, h7] <;> (try omega) <;> (try (split <;> first | rfl | omega))
theorem name_l (s : ByteArray) (hs : s.size ≤ 16) : ∀ (d i : Nat), i + d = s.size → windrowref10_Name.l0 (d + 1) s (i : Int) = some (nmF s d i)
  | 0, i, h => by
    simp only [windrowref10_Name.l0]
    rw [if_neg (by omega)]
    rfl
  | d + 1, i, h => by
    rw [name_step s (d + 1) i (by omega) hs]
    show _ = some (nmAt s i && nmF s d (i + 1))
    by_cases hn : nmAt s i = true
    · rw [if_pos hn, hn, name_l s hs d (i + 1) (by omega)]
      rfl
    · have : nmAt s i = false := by simpa using hn
      rw [if_neg hn, this]
      rfl
theorem name_eq (s : ByteArray) : windrowref10_Name.f 30 s = some (nm s) := by
  unfold windrowref10_Name.f nm
  by_cases h1 : s.size < 1
  · rw [if_pos (by omega), decide_eq_true (.inl h1)]
    rfl
  · rw [if_neg (by omega)]
    simp only [windrowref10_Name.j0]
    by_cases h2 : 16 < s.size
    · rw [if_pos (by simp; omega), decide_eq_true (.inr h2)]
      rfl
    · rw [if_neg (by simp; omega), decide_eq_false (by omega)]
      have hm := name_l s (by omega) s.size 0 (by omega)
      have : ∀ j, windrowref10_Name.l0 (s.size + 1 + j) s 0 = some (nmF s s.size 0) := by
        intro j
        induction j with
        | zero => exact hm
        | succ j ih => exact (windrowref10_Name.mono_l (s.size + 1 + j)).2 _ _ _ ih
      have h3 := this (29 - (s.size + 1))
      rw [show s.size + 1 + (29 - (s.size + 1)) = 29 by omega] at h3
      rw [h3]
      rfl
end Go.Proofs.Yteankgbcmfkfnaa.Cl
