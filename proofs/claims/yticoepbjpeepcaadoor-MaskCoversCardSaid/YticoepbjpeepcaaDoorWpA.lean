/- Fields of words: the program's and the chapter's, in plain numbers. -/
import Derived.Test.YticoepbjpeepcaaDoorBt
import Derived.Test.YticoepbjpeepcaaDoorPAllx
namespace Go.Proofs.YticoepbjpeepcaaDoor.Wp
open Go.RowKit Go.Proofs.YticoepbjpeepcaaDoor.PAll Go.Proofs.YticoepbjpeepcaaDoorW.PrintWords Go.Proofs.YticoepbjpeepcaaDoorW.PrintLast Go.Proofs.YticoepbjpeepcaaDoorW.PrintMore
open Go.Proofs.YticoepbjpeepcaaDoor.Eo Go.Proofs.YticoepbjpeepcaaDoor.Wd Go.Proofs.YticoepbjpeepcaaDoor.Bt
set_option linter.unusedVariables false
set_option linter.unusedSimpArgs false
set_option linter.unusedSectionVars false

theorem td {a b : Int} (h : 0 ≤ a) : Int.tdiv a b = a / b := Int.tdiv_eq_ediv_of_nonneg h
theorem tm {a b : Int} (h : 0 ≤ a) : Int.tmod a b = a % b := Int.tmod_eq_emod_of_nonneg h

theorem wfW {x : Int} (h : (Lit.int .u64 x).wf = true) : W x := by
  have h' : IntKind.u64.min ≤ x ∧ x ≤ IntKind.u64.max := by simpa [Lit.wf] using h
  exact ⟨h'.1, by have := h'.2; have e : IntKind.u64.max = 18446744073709551615 := rfl; omega⟩
theorem wf64 {x : Int} (h : (Lit.int .i64 x).wf = true) : -9223372036854775808 ≤ x ∧ x ≤ 9223372036854775807 := by
  have h' : IntKind.i64.min ≤ x ∧ x ≤ 9223372036854775807 := by simpa [Lit.wf] using h
  exact ⟨h'.1, h'.2⟩

theorem emod_le {a b : Int} (h : 0 ≤ a) (hb : 0 < b) : a % b ≤ a := by
  have h1 := Int.mul_ediv_add_emod a b
  have h2 : 0 ≤ a / b := Int.ediv_nonneg h (by omega)
  have h3 : 0 ≤ b * (a / b) := Int.mul_nonneg (by omega) h2
  omega

theorem mask_eq {n : Nat} (hn : n ≤ 64) : word_Mask.f n = some (2 ^ n - 1) := by
  unfold word_Mask.f
  by_cases h0 : n = 0
  · subst h0; rfl
  · rw [if_neg (by omega)]
    by_cases h : n = 64
    · subst h; rfl
    · rw [if_neg (by omega), if_pos (by omega)]
      have hp : 2 ^ n ≤ 2 ^ 63 := Nat.pow_le_pow_right (by decide) (by omega)
      have h1 : 1 ≤ 2 ^ n := Nat.one_le_two_pow
      have e : shl .u64 1 (n : Int) = ((2 ^ n : Nat) : Int) := by
        show IntKind.u64.wrap (1 * 2 ^ min ((n : Int).toNat) 64) = _
        have e2 : (2 : Int) ^ n = ((2 ^ n : Nat) : Int) := by rw [Int.natCast_pow]; rfl
        rw [show min ((n : Int).toNat) 64 = n by omega, Int.one_mul, e2, u64i (by omega) (by omega)]
      rw [e, u64i (by omega) (by omega)]
      simp

/-- The word that a field's number is put into. -/
def putW (w a n v : Int) : Int := Go.bits .or .u64 (Go.bits .andNot .u64 w (shl .u64 (2 ^ n.toNat - 1) a)) (shl .u64 v a)

theorem putW_W {w v : Int} (hw : W w) (hv : W v) (a n : Int) : W (putW w a n v) := W_or (W_andNot hw (W_shl _ _)) (W_shl _ _)

theorem putW_tb {w v : Int} (hw : W w) (hv : W v) {a n : Nat} (han : a + n ≤ 64) (hvn : v < 2 ^ n) {i : Nat} (hi : i < 64) :
    tb (putW w a n v) i = if a ≤ i ∧ i < a + n then tb v (i - a) else tb w i := by
  unfold putW
  have hz := (lt_iff hv (n := n) (by omega)).mp hvn
  rw [tb_or (W_andNot hw (W_shl _ _)) (W_shl _ _), tb_andNot hw (W_shl _ _), Int.toNat_natCast, tb_shl (W_mask (by omega)) (by omega), tb_shl hv (by omega), tb_mask, Int.toNat_natCast, decide_eq_true hi]
  by_cases h1 : a ≤ i
  · rw [decide_eq_true (p := (a : Int) ≤ i) (by omega)]
    by_cases h2 : i < a + n
    · rw [if_pos ⟨h1, h2⟩, decide_eq_true (p := i - a < n) (by omega)]; simp
    · rw [if_neg (fun z => h2 z.2), decide_eq_false (p := i - a < n) (by omega), hz (i - a) (by omega) (by omega)]; simp
  · rw [if_neg (fun z => h1 z.1), decide_eq_false (p := (a : Int) ≤ i) (by omega)]; simp

/-! ### the chapter's powers and bits -/
end Go.Proofs.YticoepbjpeepcaaDoor.Wp
