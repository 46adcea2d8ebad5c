/- The ward of the word laws; words turned; in plain numbers. -/
import Derived.Test.YticoepbjpeepcaaDoorWpA
import Derived.KernelRfl
namespace Go.Proofs.YticoepbjpeepcaaDoor.Wp
open Go.RowKit Go.Proofs.YticoepbjpeepcaaDoor.PAll Go.Proofs.YticoepbjpeepcaaDoorW.PrintWords Go.Proofs.YticoepbjpeepcaaDoorW.PrintLast Go.Proofs.YticoepbjpeepcaaDoorW.PrintMore
open Go.Proofs.YticoepbjpeepcaaDoor.Eo Go.Proofs.YticoepbjpeepcaaDoor.Wd Go.Proofs.YticoepbjpeepcaaDoor.Bt
set_option linter.unusedVariables false
set_option linter.unusedSimpArgs false
set_option linter.unusedSectionVars false

/-! ### words turned -/
def turnW (w : Int) (s : Nat) : Int := Go.bits .or .u64 (shl .u64 w s) (shr .u64 w (64 - (s : Int)))

theorem turnW_W {w : Int} (hw : W w) (s : Nat) : W (turnW w s) := W_or (W_shl _ _) (W_shr hw)

theorem turnW_tb {w : Int} (hw : W w) {s i : Nat} (hs : s < 64) (hi : i < 64) : tb (turnW w s) i = tb w ((i + (64 - s)) % 64) := by
  unfold turnW
  rw [tb_or (W_shl _ _) (W_shr hw), tb_shl hw (by omega), tb_shr hw (by omega), decide_eq_true hi]
  rw [show ((s : Int)).toNat = s by omega, show (64 - (s : Int)).toNat = 64 - s by omega]
  by_cases h : s ≤ i
  · rw [decide_eq_true (p := (s : Int) ≤ i) (by omega), tb_high hw (i := i + (64 - s)) (by omega), show (i + (64 - s)) % 64 = i - s by omega]; simp
  · rw [decide_eq_false (p := (s : Int) ≤ i) (by omega), show (i + (64 - s)) % 64 = i + (64 - s) by omega]; simp

theorem tmod64 (a : Int) : Int.tmod a 64 % 64 = a % 64 ∧ -64 < Int.tmod a 64 ∧ Int.tmod a 64 < 64 := by
  have h1 := Int.mul_tdiv_add_tmod a 64
  have h2 : Int.tmod a 64 < 64 := Int.tmod_lt_of_pos a (by omega)
  have h3 : -64 < Int.tmod a 64 := by
    have := Int.lt_tmod_of_pos a (b := 64) (by omega)
    omega
  generalize Int.tmod a 64 = t at *
  generalize Int.tdiv a 64 = q at *
  omega

theorem turn_turn {w : Int} (hw : W w) {s t : Nat} (hs : s < 64) (ht : t < 64) : turnW (turnW w s) t = turnW w ((s + t) % 64) :=
  ext (turnW_W (turnW_W hw s) t) (turnW_W hw _) fun i hi => by
    rw [turnW_tb (turnW_W hw s) ht hi, turnW_tb hw hs (by omega), turnW_tb hw (by omega) hi]
    congr 1; omega

theorem turn_zero {w : Int} (hw : W w) : turnW w 0 = w :=
  ext (turnW_W hw 0) hw fun i hi => by
    rw [turnW_tb hw (by omega) hi]
    congr 1; omega
end Go.Proofs.YticoepbjpeepcaaDoor.Wp
