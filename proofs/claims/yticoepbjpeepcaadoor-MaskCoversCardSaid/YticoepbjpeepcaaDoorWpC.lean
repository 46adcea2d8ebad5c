/- The lowest one; gaps; in plain numbers. -/
import Derived.Test.YticoepbjpeepcaaDoorWpB
namespace Go.Proofs.YticoepbjpeepcaaDoor.Wp
open Go.RowKit Go.Proofs.YticoepbjpeepcaaDoor.PAll Go.Proofs.YticoepbjpeepcaaDoorW.PrintWords Go.Proofs.YticoepbjpeepcaaDoorW.PrintLast Go.Proofs.YticoepbjpeepcaaDoorW.PrintMore
open Go.Proofs.YticoepbjpeepcaaDoor.Eo Go.Proofs.YticoepbjpeepcaaDoor.Wd Go.Proofs.YticoepbjpeepcaaDoor.Bt
set_option linter.unusedVariables false
set_option linter.unusedSimpArgs false
set_option linter.unusedSectionVars false

theorem tz_table : ∀ k : Fin 64, tab.getD ((IntKind.u64.wrap ((2 : Int) ^ k.1 * 285870213051353865) / 288230376151711744).toNat) 0 = (k.1 : Int) := by decide +kernel

theorem tz_low {x : Int} (hx : W x) {k : Nat} (hk : k < 64) (hl : Low x k) : tz x = k := by
  unfold tz
  rw [if_neg (low_ne hl), and_neg hx hk hl]
  exact tz_table ⟨k, hk⟩

theorem lowest_eq {x : Int} (hx : W x) : word_Lowest.f x = some (tz x) := by
  unfold word_Lowest.f bits_TrailingZeros64.f
  rw [if_pos hx.1, if_pos hx.2]; rfl

/-! ### gaps -/
def Free (w : Int) (n i : Nat) : Prop := i + n ≤ 64 ∧ ∀ j, j < n → tb w (i + j) = false

/-- What both answer. -/
def GapR (w : Int) (n : Nat) (r : Int) : Prop := (∃ k : Nat, k < 64 ∧ r = k ∧ Free w n k ∧ ∀ i, i < k → ¬ Free w n i) ∨ (r = -1 ∧ ∀ i, ¬ Free w n i)

theorem gapR_unique {w : Int} {n : Nat} {r s : Int} (hr : GapR w n r) (hs : GapR w n s) : r = s := by
  rcases hr with ⟨k, _, rfl, f, a⟩ | ⟨rfl, a⟩
  · rcases hs with ⟨l, _, rfl, g, b⟩ | ⟨rfl, b⟩
    · have h1 : ¬ k < l := fun h => b k h f
      have h2 : ¬ l < k := fun h => a l h g
      omega
    · exact absurd f (b k)
  · rcases hs with ⟨l, _, rfl, g, b⟩ | ⟨rfl, b⟩
    · exact absurd g (a l)
    · rfl

/-- A field of noughts. -/
theorem zero_field {w : Int} (hw : W w) {a n : Nat} : w / 2 ^ a % 2 ^ n = 0 ↔ ∀ j, j < n → tb w (a + j) = false := by
  have h0 : 0 ≤ w / 2 ^ a := Int.ediv_nonneg hw.1 (Int.le_of_lt (Int.pow_pos (by omega)))
  have hW : W (w / 2 ^ a % 2 ^ n) := by
    have h1 : w / 2 ^ a ≤ w := Int.ediv_le_self _ hw.1
    have h2 : w / 2 ^ a % 2 ^ n ≤ w / 2 ^ a := emod_le h0 (Int.pow_pos (by omega))
    exact ⟨Int.emod_nonneg _ (Int.ne_of_gt (Int.pow_pos (by omega))), by have := hw.2; omega⟩
  have ht : ∀ i, tb (w / 2 ^ a % 2 ^ n) i = (decide (i < n) && tb w (a + i)) := fun i => by rw [tb_mod h0, tb_div hw.1]
  constructor
  · intro h j hj
    have := ht j
    rw [h, tb_zero, decide_eq_true hj] at this
    simpa using this.symm
  · intro h
    refine eq_zero_of hW fun i _ => ?_
    rw [ht]
    by_cases hi : i < n
    · rw [h i hi]; simp
    · rw [decide_eq_false hi]; rfl
end Go.Proofs.YticoepbjpeepcaaDoor.Wp
