/- Ones counted, found, ranked; in plain numbers. -/
import Derived.Test.YticoepbjpeepcaaDoorWpC
import Derived.Test.YticoepbjpeepcaaDoorPop
namespace Go.Proofs.YticoepbjpeepcaaDoor.Wp
open Go.RowKit Go.Proofs.YticoepbjpeepcaaDoor.PAll Go.Proofs.YticoepbjpeepcaaDoorW.PrintWords Go.Proofs.YticoepbjpeepcaaDoorW.PrintLast Go.Proofs.YticoepbjpeepcaaDoorW.PrintMore
open Go.Proofs.YticoepbjpeepcaaDoor.Eo Go.Proofs.YticoepbjpeepcaaDoor.Wd Go.Proofs.YticoepbjpeepcaaDoor.Bt
set_option linter.unusedVariables false
set_option linter.unusedSimpArgs false
set_option linter.unusedSectionVars false

/-- math/bits.len8tab, as the walk spells it. -/
abbrev T8 : ByteArray := ⟨#[0, 1, 2, 2, 3, 3, 3, 3, 4, 4, 4, 4, 4, 4, 4, 4, 5, 5, 5, 5, 5, 5, 5, 5, 5, 5, 5, 5, 5, 5, 5, 5, 6, 6, 6, 6, 6, 6, 6, 6, 6, 6, 6, 6, 6, 6, 6, 6, 6, 6, 6, 6, 6, 6, 6, 6, 6, 6, 6, 6, 6, 6, 6, 6, 7, 7, 7, 7, 7, 7, 7, 7, 7, 7, 7, 7, 7, 7, 7, 7, 7, 7, 7, 7, 7, 7, 7, 7, 7, 7, 7, 7, 7, 7, 7, 7, 7, 7, 7, 7, 7, 7, 7, 7, 7, 7, 7, 7, 7, 7, 7, 7, 7, 7, 7, 7, 7, 7, 7, 7, 7, 7, 7, 7, 7, 7, 7, 7, 8, 8, 8, 8, 8, 8, 8, 8, 8, 8, 8, 8, 8, 8, 8, 8, 8, 8, 8, 8, 8, 8, 8, 8, 8, 8, 8, 8, 8, 8, 8, 8, 8, 8, 8, 8, 8, 8, 8, 8, 8, 8, 8, 8, 8, 8, 8, 8, 8, 8, 8, 8, 8, 8, 8, 8, 8, 8, 8, 8, 8, 8, 8, 8, 8, 8, 8, 8, 8, 8, 8, 8, 8, 8, 8, 8, 8, 8, 8, 8, 8, 8, 8, 8, 8, 8, 8, 8, 8, 8, 8, 8, 8, 8, 8, 8, 8, 8, 8, 8, 8, 8, 8, 8, 8, 8, 8, 8, 8, 8, 8, 8, 8, 8, 8, 8, 8, 8, 8, 8, 8, 8, 8, 8, 8, 8, 8, 8]⟩

/-- How many ones. -/
def ones (w : Int) : Nat := cnt (tb w) 64

theorem ones_eq {w : Int} (hw : W w) : word_Ones.f w = some ((ones w : Nat) : Int) := by
  have h : bits_OnesCount64.f w = some (Pop.swar w) := rfl
  unfold word_Ones.f
  rw [h, Pop.swar_eq hw]; rfl

theorem nth_exists {p : Nat → Bool} {m : Nat} : ∀ n, m < cnt p n → ∃ i, i < n ∧ p i = true ∧ cnt p i = m := by
  intro n
  induction n with
  | zero => intro h; exact absurd h (by simp [cnt])
  | succ n ih =>
    intro h
    by_cases hm : m < cnt p n
    · obtain ⟨i, hi, a, b⟩ := ih hm
      exact ⟨i, by omega, a, b⟩
    · rw [cnt] at h
      cases hp : p n with
      | true => rw [hp] at h; simp at h; exact ⟨n, by omega, hp, by omega⟩
      | false => rw [hp] at h; simp at h; omega

theorem nth_unique {p : Nat → Bool} {i j : Nat} (hi : p i = true) (hj : p j = true) (h : cnt p i = cnt p j) : i = j := by
  by_cases h1 : i < j
  · have h2 := cnt_mono p (show i + 1 ≤ j by omega)
    rw [cnt, hi] at h2; simp at h2; omega
  · by_cases h3 : j < i
    · have h2 := cnt_mono p (show j + 1 ≤ i by omega)
      rw [cnt, hj] at h2; simp at h2; omega
    · omega

/-! ### Select -/
/-- What Select answers. -/
def SelR (w m r : Int) : Prop := ((m < 0 ∨ (ones w : Int) ≤ m) ∧ r = -1) ∨ ∃ p : Nat, 0 ≤ m ∧ p < 64 ∧ tb w p = true ∧ (cnt (tb w) p : Int) = m ∧ r = p

/-! ### the chapter's places -/
def pl (w : Int) : Nat → List Int
  | 0 => []
  | n + 1 => if tb w n then pl w n ++ [(n : Int)] else pl w n

theorem pl_len (w : Int) (n : Nat) : (pl w n).length = cnt (tb w) n := by
  induction n with
  | zero => rfl
  | succ n ih =>
    rw [pl, cnt]
    cases tb w n <;> simp [ih]

theorem pl_get {w : Int} {m : Nat} : ∀ n, m < cnt (tb w) n → ∃ p : Nat, p < n ∧ tb w p = true ∧ cnt (tb w) p = m ∧ (pl w n).getD m 0 = p := by
  intro n
  induction n with
  | zero => intro h; exact absurd h (by simp [cnt])
  | succ n ih =>
    intro h
    have hl := pl_len w n
    rw [pl]
    by_cases hm : m < cnt (tb w) n
    · obtain ⟨p, hp, a, b, c⟩ := ih hm
      refine ⟨p, by omega, a, b, ?_⟩
      cases ht : tb w n with
      | true =>
        rw [if_pos rfl, List.getD_eq_getElem?_getD, List.getElem?_append_left (by omega), ← List.getD_eq_getElem?_getD]; exact c
      | false => rw [if_neg (by simp)]; exact c
    · rw [cnt] at h
      cases ht : tb w n with
      | true =>
        rw [ht] at h; simp at h
        refine ⟨n, by omega, ht, by omega, ?_⟩
        rw [if_pos rfl, List.getD_eq_getElem?_getD, List.getElem?_append_right (by omega), show m - (pl w n).length = 0 by omega]; rfl
      | false => rw [ht] at h; simp at h; omega

theorem pl_rd {w : Int} {m : Nat} (h : m < ones w) : ∃ p : Nat, p < 64 ∧ tb w p = true ∧ cnt (tb w) p = m ∧ rd (pl w 64) (m : Int) = p := by
  obtain ⟨p, a, b, c, d⟩ := pl_get 64 h
  exact ⟨p, a, b, c, by unfold rd; rw [Int.toNat_natCast]; exact d⟩

/-! ### Rank and Mask -/
def upto (a : Int) : Nat := min 64 a.toNat

theorem mask_all (a : Int) : word_Mask.f a = some (2 ^ upto a - 1) := by
  by_cases h0 : a ≤ 0
  · unfold word_Mask.f
    rw [if_pos h0, show upto a = 0 by unfold upto; omega]; rfl
  · by_cases h1 : a ≥ 64
    · unfold word_Mask.f
      rw [if_neg h0, if_pos h1, show upto a = 64 by unfold upto; omega]; rfl
    · obtain ⟨n, rfl⟩ := Int.eq_ofNat_of_zero_le (show 0 ≤ a by omega)
      rw [mask_eq (by omega), show upto (n : Int) = n by unfold upto; omega]

theorem cnt_below (p : Nat → Bool) (m : Nat) : ∀ n, cnt (fun i => p i && decide (i < m)) n = cnt p (min n m) := by
  intro n
  induction n with
  | zero => rw [Nat.zero_min]; rfl
  | succ n ih =>
    rw [cnt, ih]
    by_cases h : n < m
    · rw [decide_eq_true h, Bool.and_true, show min (n + 1) m = n + 1 by omega, show min n m = n by omega, cnt]
    · rw [decide_eq_false h, Bool.and_false, show min (n + 1) m = min n m by omega]; rfl

/-- How many of a list stand below a. -/
def cl (a : Int) : List Int → Nat
  | [] => 0
  | x :: l => (if x < a then 1 else 0) + cl a l

theorem cl_append (a : Int) (l m : List Int) : cl a (l ++ m) = cl a l + cl a m := by
  induction l with
  | nil => rw [List.nil_append]; simp [cl]
  | cons x l ih => rw [List.cons_append, cl, cl, ih]; omega

theorem cl_pl (w a : Int) (n : Nat) : cl a (pl w n) = cnt (tb w) (min n a.toNat) := by
  induction n with
  | zero => rw [Nat.zero_min]; rfl
  | succ n ih =>
    rw [pl]
    by_cases h : (n : Int) < a
    · rw [show min (n + 1) a.toNat = n + 1 by omega, cnt]
      rw [show min n a.toNat = n by omega] at ih
      cases ht : tb w n with
      | true => rw [if_pos rfl, cl_append, ih]; simp [cl, h]
      | false => rw [if_neg (by simp), ih]; simp
    · rw [show min (n + 1) a.toNat = min n a.toNat by omega]
      cases ht : tb w n with
      | true => rw [if_pos rfl, cl_append, ih]; simp [cl, h]
      | false => rw [if_neg (by simp), ih]

/-! ### the highest one -/
abbrev Len (x L : Nat) : Prop := (x = 0 ∧ L = 0) ∨ (1 ≤ L ∧ 2 ^ (L - 1) ≤ x ∧ x < 2 ^ L)

theorem len_lift {x s L : Nat} (h : Len (x / 2 ^ s) L) (hx : 2 ^ s ≤ x) : Len x (L + s) := by
  have hp := Nat.two_pow_pos s
  rcases h with ⟨h, _⟩ | ⟨h1, h2, h3⟩
  · have := Nat.div_pos hx hp; omega
  · refine .inr ⟨by omega, ?_, ?_⟩
    · rw [show L + s - 1 = L - 1 + s by omega, Nat.pow_add]
      exact (Nat.le_div_iff_mul_le hp).mp h2
    · rw [Nat.pow_add]
      exact (Nat.div_lt_iff_lt_mul hp).mp h3

theorem t8_len : ∀ b : Fin 256, 0 ≤ bt T8 (b.1 : Int) ∧ bt T8 (b.1 : Int) ≤ 8 ∧ Len b.1 (bt T8 (b.1 : Int)).toNat := by decide +kernel

/-- h is the highest one's place; -1: there is none. -/
def High (w h : Int) : Prop := (w = 0 ∧ h = -1) ∨ ∃ p : Nat, p < 64 ∧ h = p ∧ tb w p = true ∧ ∀ i, p < i → tb w i = false

end Go.Proofs.YticoepbjpeepcaaDoor.Wp
