/- Headers' words, and fields of words, in plain numbers. -/
import Derived.Test.YtddkockeeodklaaHdA
import Derived.Test.YtddkockeeodklaaWd
import Derived.Test.YtddkockeeodklaaPAllx
namespace Go.Proofs.Ytddkockeeodklaa.Hd
open Go.RowKit Go.Proofs.Ytddkockeeodklaa.PAll Go.Proofs.YtddkockeeodklaaW.PrintWords Go.Proofs.YtddkockeeodklaaW.PrintLast Go.Proofs.YtddkockeeodklaaW.PrintMore
open Go.Proofs.Ytddkockeeodklaa.Eo Go.Proofs.Ytddkockeeodklaa.Wd
set_option linter.unusedVariables false
set_option linter.unusedSimpArgs false
set_option linter.unusedSectionVars false

/-! ### a header's word -/
def headW (c k l : Int) : Int := 11889503016258109440 + l * 65536 + c * 256 + k

theorem encHead_eq (n : Nat) (c k l : Int) : header_EncodeHead.f (n + 1) c k l = some (if headP c k l then (headW c k l, 0) else (0, 4)) := by
  unfold header_EncodeHead.f
  rw [right_eq]
  simp only [Option.bind_some, decide_eq_true_eq]
  by_cases h : headP c k l
  · rw [if_pos h, if_pos h]
    have hh := h
    unfold headP at hh
    rw [u64i (x := l) (by omega) (by omega), u64i (x := l * 65536) (by omega) (by omega), u64i (x := c) (by omega) (by omega), u64i (x := c * 256) (by omega) (by omega), u64i (x := k) (by omega) (by omega)]
    rw [or_add (n := 24) (x := 11889503016258109440) (y := l * 65536) (by unfold W; omega) (by omega) (by omega) (by omega) (by unfold W; omega)]
    rw [or_add (n := 16) (x := 11889503016258109440 + l * 65536) (y := c * 256) (by unfold W; omega) (by omega) (by omega) (by omega) (by unfold W; omega)]
    rw [or_add (n := 8) (x := 11889503016258109440 + l * 65536 + c * 256) (y := k) (by unfold W; omega) (by omega) (by omega) (by omega) (by unfold W; omega)]
    rfl
  · rw [if_neg h, if_neg h]

/-! ### fields of words -/
theorem field_eq (a n : Int) : word_field.f a n = some (decide (0 ≤ a ∧ a < 64 ∧ 1 ≤ n ∧ n ≤ 64 - a)) := by
  unfold word_field.f
  split
  · split
    · split
      · rw [w64 (by omega) (by omega)]
        congr 1; rw [Bool.eq_iff_iff]; simp only [decide_eq_true_eq]; omega
      all_goals (rw [decide_eq_false (by omega)])
    all_goals (rw [decide_eq_false (by omega)])
  all_goals (rw [decide_eq_false (by omega)])

theorem mask_eq {n : Nat} (hn : n ≤ 64) : word_Mask.f n = some (2 ^ n - 1) := by
  unfold word_Mask.f
  by_cases h0 : n = 0
  · subst h0; rfl
  · rw [if_neg (by omega)]
    by_cases h : n = 64
    · subst h; rfl
    · rw [if_neg (by omega), if_pos (by omega)]
      have hp : 2 ^ n ≤ 2 ^ 63 := Nat.pow_le_pow_right (by decide) (by omega)
      have h1 : 1 ≤ 2 ^ n := Nat.one_le_two_pow
      have e : shl .u64 1 (n : Int) = ((2 ^ n : Nat) : Int) := by
        show IntKind.u64.wrap (1 * 2 ^ min ((n : Int).toNat) 64) = _
        have e2 : (2 : Int) ^ n = ((2 ^ n : Nat) : Int) := by rw [Int.natCast_pow]; rfl
        rw [show min ((n : Int).toNat) 64 = n by omega, Int.one_mul, e2, u64i (by omega) (by omega)]
      rw [e, u64i (by omega) (by omega)]
      simp

theorem get_eq {w : Int} (hw : W w) {a n : Nat} (hn : 1 ≤ n) (han : a + n ≤ 64) : word_Get.f w a n = some (w / 2 ^ a % 2 ^ n, 0) := by
  unfold word_Get.f
  rw [field_eq, decide_eq_true (by omega)]
  refine bnd rfl (itp rfl (itp (by omega) (bnd (mask_eq (by omega)) ?_)))
  have e : shr .u64 w (a : Int) = w / 2 ^ a := by
    unfold shr; rw [show min ((a : Int).toNat) IntKind.u64.bits = a from Nat.min_eq_left (by show (a : Int).toNat ≤ 64; omega)]
  have hs := W_shr (n := (a : Int)) hw
  rw [e] at hs ⊢
  rw [and_mask hs (by omega)]

/-- A number put above all that the word holds. -/
theorem put_eq {w v : Int} {a n : Nat} (hw : 0 ≤ w ∧ w < 2 ^ a) (hv : W v) (hn : 1 ≤ n) (han : a + n ≤ 64) :
    word_Put.f w a n v = some (if v < 2 ^ n then (w + v * 2 ^ a, 0) else (0, 3)) := by
  unfold word_Put.f
  rw [field_eq, decide_eq_true (by omega)]
  refine bnd rfl (itp rfl (bnd (mask_eq (by omega)) ?_))
  by_cases h : v < 2 ^ n
  · rw [if_pos h]
    refine itp ((andNot_zero_iff hv (by omega)).mpr h) (bnd (mask_eq (by omega)) (itp (by omega) ?_))
    have hpa : (2 : Int) ^ a ≤ 2 ^ 64 := by
      have : 2 ^ a ≤ 2 ^ 64 := Nat.pow_le_pow_right (by decide) (by omega)
      exact_mod_cast this
    have hWw : W w := ⟨hw.1, by have := hw.2; omega⟩
    have hsum : w + v * 2 ^ a < 2 ^ 64 := by
      have h1 : v * 2 ^ a ≤ (2 ^ n - 1) * 2 ^ a := Int.mul_le_mul_of_nonneg_right (by omega) (Int.le_of_lt (Int.pow_pos (by omega)))
      have h2 : (2 : Int) ^ n * 2 ^ a ≤ 2 ^ 64 := by
        have : 2 ^ n * 2 ^ a ≤ 2 ^ 64 := by rw [← Nat.pow_add]; exact Nat.pow_le_pow_right (by decide) (by omega)
        exact_mod_cast this
      rw [Int.sub_mul] at h1
      have := hw.2
      omega
    have hv2 : 0 ≤ v * 2 ^ a := Int.mul_nonneg hv.1 (Int.le_of_lt (Int.pow_pos (by omega)))
    have ev : shl .u64 v (a : Int) = v * 2 ^ a := by
      show IntKind.u64.wrap (v * 2 ^ min ((a : Int).toNat) 64) = _
      rw [show min ((a : Int).toNat) 64 = a by omega, u64i hv2 (by have := hw.1; omega)]
    have hm : (shl .u64 (2 ^ n - 1) (a : Int)) % 2 ^ a = 0 := by
      show IntKind.u64.wrap ((2 ^ n - 1) * 2 ^ min ((a : Int).toNat) 64) % 2 ^ a = 0
      rw [show min ((a : Int).toNat) 64 = a by omega, u64w]
      have hd : (2 : Int) ^ a ∣ 18446744073709551616 := ⟨2 ^ (64 - a), by rw [← Int.pow_add, show a + (64 - a) = 64 by omega]; rfl⟩
      rw [Int.emod_emod_of_dvd _ hd, Int.mul_emod_left]
    rw [andNot_high hw.1 hw.2 hWw (W_shl _ _) hm, ev, or_comm' hWw ⟨hv2, by have := hw.1; omega⟩, or_add (n := a) ⟨hv2, by have := hw.1; omega⟩ hw.1 hw.2 (Int.mul_emod_left _ _) ⟨by have := hw.1; omega, by omega⟩, Int.add_comm]
  · rw [if_neg h]
    refine itn (fun e => h ((andNot_zero_iff hv (by omega)).mp e)) rfl
end Go.Proofs.Ytddkockeeodklaa.Hd
