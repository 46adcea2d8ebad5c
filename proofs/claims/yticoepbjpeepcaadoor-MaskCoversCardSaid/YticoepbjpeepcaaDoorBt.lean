/- Bits of words, once more: a bit added, the lowest bit, counts of bits. -/
import Derived.Test.YticoepbjpeepcaaDoorWd
namespace Go.Proofs.YticoepbjpeepcaaDoor.Bt
open Go Go.Proofs.YticoepbjpeepcaaDoorW.PrintWords Go.Proofs.YticoepbjpeepcaaDoorW.PrintLast Go.Proofs.YticoepbjpeepcaaDoorW.PrintMore
open Go.Proofs.YticoepbjpeepcaaDoor.Eo Go.Proofs.YticoepbjpeepcaaDoor.Wd
set_option linter.unusedVariables false
set_option linter.unusedSimpArgs false
set_option linter.unusedSectionVars false

/-- A bit, as a number. -/
def bi (x : Int) (i : Nat) : Int := x / 2 ^ i % 2

theorem bi_nat (n i : Nat) : bi (n : Int) i = if n.testBit i then 1 else 0 := by
  have e : bi (n : Int) i = ((n / 2 ^ i % 2 : Nat) : Int) := by unfold bi; push_cast; rfl
  rw [e, Nat.testBit_eq_decide_div_mod_eq]
  have : n / 2 ^ i % 2 < 2 := Nat.mod_lt _ (by decide)
  by_cases h : n / 2 ^ i % 2 = 1
  · rw [h]; simp
  · rw [show n / 2 ^ i % 2 = 0 by omega]; simp

theorem bi_tb {x : Int} (h : 0 ≤ x) (i : Nat) : bi x i = if tb x i then 1 else 0 := by
  obtain ⟨n, rfl⟩ := Int.eq_ofNat_of_zero_le h
  exact bi_nat n i

theorem bi_one {x : Int} (h : 0 ≤ x) (i : Nat) : bi x i = 1 ↔ tb x i = true := by
  rw [bi_tb h]; cases tb x i <;> simp

theorem nat_addbit {n p : Nat} (h : n.testBit p = false) (i : Nat) : (n + 2 ^ p).testBit i = (n.testBit i || decide (i = p)) := by
  have hd : n / 2 ^ p % 2 = 0 := by
    rw [Nat.testBit_eq_decide_div_mod_eq] at h
    have : n / 2 ^ p % 2 < 2 := Nat.mod_lt _ (by decide)
    have := of_decide_eq_false h
    omega
  have hq := Nat.div_add_mod n (2 ^ p)
  have hq2 := Nat.div_add_mod (n / 2 ^ p) 2
  have hr : n % 2 ^ p < 2 ^ p := Nat.mod_lt _ (Nat.two_pow_pos p)
  have hb : n % 2 ^ p + 2 ^ p < 2 ^ (p + 1) := by rw [Nat.pow_succ]; omega
  have e1 : n = 2 ^ (p + 1) * (n / 2 ^ p / 2) + n % 2 ^ p := by
    rw [Nat.pow_succ, Nat.mul_assoc, show 2 * (n / 2 ^ p / 2) = n / 2 ^ p by omega]; omega
  have e2 : n + 2 ^ p = 2 ^ (p + 1) * (n / 2 ^ p / 2) + (n % 2 ^ p + 2 ^ p) := by omega
  have t1 : n.testBit i = if i < p + 1 then (n % 2 ^ p).testBit i else (n / 2 ^ p / 2).testBit (i - (p + 1)) := by
    conv => lhs; rw [e1]
    exact Nat.testBit_two_pow_mul_add _ (by omega) _
  rw [e2, Nat.testBit_two_pow_mul_add _ hb, t1]
  by_cases hi : i < p + 1
  · rw [if_pos hi, if_pos hi, show n % 2 ^ p + 2 ^ p = 2 ^ p * 1 + n % 2 ^ p by omega, Nat.testBit_two_pow_mul_add _ hr]
    by_cases hip : i < p
    · rw [if_pos hip, decide_eq_false (by omega)]; simp
    · obtain rfl : i = p := by omega
      rw [if_neg (by omega)]; simp
  · rw [if_neg hi, if_neg hi, decide_eq_false (by omega)]; simp

/-- A bit added where none is. -/
theorem addbit {x : Int} (hx : W x) {p : Nat} (hp : p < 64) (h : tb x p = false) : W (x + 2 ^ p) ∧ ∀ i, tb (x + 2 ^ p) i = (tb x i || decide (i = p)) := by
  obtain ⟨n, rfl, hn⟩ := hx.nat
  rw [tb_nat] at h
  have e : (n : Int) + 2 ^ p = ((n + 2 ^ p : Nat) : Int) := by push_cast; rfl
  have t := nat_addbit h
  have eo : n + 2 ^ p = n ||| 2 ^ p := Nat.eq_of_testBit_eq fun i => by
    rw [t, Nat.testBit_or, Nat.testBit_two_pow]
    by_cases hi : i = p
    · subst hi; simp
    · rw [decide_eq_false hi, decide_eq_false (fun z => hi z.symm)]
  have hp2 : 2 ^ p < 2 ^ 64 := Nat.pow_lt_pow_right (by decide) hp
  rw [e]
  exact ⟨W_nat (by rw [eo]; exact Nat.or_lt_two_pow hn hp2), fun i => by rw [tb_nat, tb_nat, t]⟩

/-- What the chapter's sums add: a bit of a word, at its place. -/
theorem addref {x w : Int} (hx : W x) (hw : W w) {p s : Nat} (hp : p < 64) (h : tb x p = false) {P b : Int} (hP : P = 2 ^ p) (hb : b = bi w s) :
    W (IntKind.u64.wrap (x + IntKind.u64.wrap (b * P))) ∧ ∀ i, tb (IntKind.u64.wrap (x + IntKind.u64.wrap (b * P))) i = (tb x i || (decide (i = p) && tb w s)) := by
  subst hP hb
  rw [bi_tb hw.1]
  have hp2 : (2 : Int) ^ p < 18446744073709551616 := by
    have : 2 ^ p < 18446744073709551616 := Nat.pow_lt_pow_right (n := 64) (m := p) (by decide) hp
    have e : (2 : Int) ^ p = ((2 ^ p : Nat) : Int) := by push_cast; rfl
    omega
  have hp0 : (0 : Int) < 2 ^ p := Int.pow_pos (by omega)
  cases ht : tb w s with
  | true =>
    obtain ⟨h1, h2⟩ := addbit hx hp h
    have e1 : IntKind.u64.wrap ((if true = true then (1 : Int) else 0) * 2 ^ p) = 2 ^ p := by
      rw [if_pos rfl, Int.one_mul]; exact u64i (by omega) (by omega)
    rw [e1, u64i h1.1 (by have := h1.2; omega)]
    exact ⟨h1, fun i => by rw [h2, Bool.and_true]⟩
  | false =>
    have e1 : IntKind.u64.wrap ((if false = true then (1 : Int) else 0) * 2 ^ p) = 0 := by
      rw [if_neg (by simp), Int.zero_mul]; exact u64i (by omega) (by omega)
    rw [e1, Int.add_zero, u64i hx.1 (by have := hx.2; omega)]
    exact ⟨hx, fun i => by rw [Bool.and_false, Bool.or_false]⟩

theorem tb_div {x : Int} (h : 0 ≤ x) (a i : Nat) : tb (x / 2 ^ a) i = tb x (a + i) := by
  obtain ⟨n, rfl⟩ := Int.eq_ofNat_of_zero_le h
  have e : (n : Int) / 2 ^ a = ((n / 2 ^ a : Nat) : Int) := by push_cast; rfl
  rw [e, tb_nat, tb_nat, Nat.testBit_div_two_pow, Nat.add_comm]

theorem tb_mod {x : Int} (h : 0 ≤ x) (n i : Nat) : tb (x % 2 ^ n) i = (decide (i < n) && tb x i) := by
  obtain ⟨m, rfl⟩ := Int.eq_ofNat_of_zero_le h
  have e : (m : Int) % 2 ^ n = ((m % 2 ^ n : Nat) : Int) := by push_cast; rfl
  rw [e, tb_nat, tb_nat, Nat.testBit_mod_two_pow]

/-- Below 2^n: no bit from n on. -/
theorem lt_iff {v : Int} (hv : W v) {n : Nat} (hn : n ≤ 64) : v < 2 ^ n ↔ ∀ i, n ≤ i → i < 64 → tb v i = false := by
  obtain ⟨m, rfl, hm⟩ := hv.nat
  constructor
  · intro h i hi _
    have h' : m < 2 ^ n := by exact_mod_cast h
    rw [tb_nat]
    exact Nat.testBit_lt_two_pow (Nat.lt_of_lt_of_le h' (Nat.pow_le_pow_right (by decide) hi))
  · intro h
    have e : m = m % 2 ^ n := Nat.eq_of_testBit_eq fun i => by
      rw [Nat.testBit_mod_two_pow]
      by_cases hi : i < n
      · simp [hi]
      · rw [decide_eq_false hi, Bool.false_and]
        by_cases h64 : i < 64
        · have := h i (by omega) h64; rwa [tb_nat] at this
        · exact Nat.testBit_lt_two_pow (Nat.lt_of_lt_of_le hm (Nat.pow_le_pow_right (by decide) (by omega)))
    have : m < 2 ^ n := by rw [e]; exact Nat.mod_lt _ (Nat.two_pow_pos n)
    exact_mod_cast this

/-! ### the lowest one -/
/-- k is the place of x's lowest one. -/
def Low (x : Int) (k : Nat) : Prop := tb x k = true ∧ ∀ i, i < k → tb x i = false

theorem eq_zero_of {x : Int} (hx : W x) (h : ∀ i, i < 64 → tb x i = false) : x = 0 :=
  ext hx W_zero fun i hi => by rw [h i hi, tb_zero]

theorem low_exists {x : Int} (hx : W x) (h0 : x ≠ 0) : ∃ k, k < 64 ∧ Low x k := by
  have go : ∀ n : Nat, n ≤ 64 → (∀ i, i < n → tb x i = false) ∨ ∃ k, k < n ∧ Low x k := by
    intro n
    induction n with
    | zero => exact fun _ => .inl fun i hi => absurd hi (by omega)
    | succ n ih =>
      intro hn
      rcases ih (by omega) with h | ⟨k, hk, hl⟩
      · cases ht : tb x n with
        | true => exact .inr ⟨n, by omega, ht, h⟩
        | false =>
          refine .inl fun i hi => ?_
          by_cases e : i = n
          · rw [e, ht]
          · exact h i (by omega)
      · exact .inr ⟨k, by omega, hl⟩
  rcases go 64 (by omega) with h | ⟨k, hk, hl⟩
  · exact absurd (eq_zero_of hx h) h0
  · exact ⟨k, hk, hl⟩

theorem low_unique {x : Int} {k l : Nat} (hk : Low x k) (hl : Low x l) : k = l := by
  by_cases h : k < l
  · have := hl.2 k h; rw [hk.1] at this; cases this
  · by_cases h2 : l < k
    · have := hk.2 l h2; rw [hl.1] at this; cases this
    · omega

theorem low_ne {x : Int} {k : Nat} (hk : Low x k) : x ≠ 0 := by
  rintro rfl
  have := hk.1; rw [tb_zero] at this; cases this

/-- One less: the lowest one goes, and all below it come. -/
theorem tb_pred {x : Int} (hx : W x) {k : Nat} (hk : Low x k) : W (x - 1) ∧ ∀ i, tb (x - 1) i = (decide (i < k) || (decide (k < i) && tb x i)) := by
  have hn0 := low_ne hk
  obtain ⟨n, rfl, hn⟩ := hx.nat
  have hn0' : n ≠ 0 := fun h => hn0 (by rw [h]; rfl)
  have hq := Nat.div_add_mod n (2 ^ k)
  have hr : n % 2 ^ k = 0 := Nat.eq_of_testBit_eq fun i => by
    rw [Nat.testBit_mod_two_pow, Nat.zero_testBit]
    by_cases hi : i < k
    · have := hk.2 i hi; rw [tb_nat] at this; rw [this]; simp
    · simp [hi]
  have hk1 := hk.1
  rw [tb_nat, Nat.testBit_eq_decide_div_mod_eq] at hk1
  have hk1' := of_decide_eq_true hk1
  have hq2 := Nat.div_add_mod (n / 2 ^ k) 2
  have hpk := Nat.two_pow_pos k
  have e1 : n = 2 ^ (k + 1) * (n / 2 ^ k / 2) + 2 ^ k := by
    have : 2 ^ k * (n / 2 ^ k) = 2 ^ k * (2 * (n / 2 ^ k / 2)) + 2 ^ k := by
      conv => lhs; rw [← hq2, hk1', Nat.mul_add, Nat.mul_one]
    rw [Nat.pow_succ, Nat.mul_assoc]; omega
  have e2 : n - 1 = 2 ^ (k + 1) * (n / 2 ^ k / 2) + (2 ^ k - 1) := by omega
  have e3 : (n : Int) - 1 = ((n - 1 : Nat) : Int) := by omega
  rw [e3]
  refine ⟨W_nat (by omega), fun i => ?_⟩
  rw [tb_nat, e2, Nat.testBit_two_pow_mul_add _ (by rw [Nat.pow_succ]; omega), tb_nat, Nat.testBit_two_pow_sub_one]
  by_cases hi : i < k + 1
  · rw [if_pos hi, decide_eq_false (p := k < i) (by omega)]; simp
  · rw [if_neg hi, decide_eq_false (p := i < k) (by omega), decide_eq_true (p := k < i) (by omega)]
    have : n.testBit i = (n / 2 ^ k / 2).testBit (i - (k + 1)) := by
      conv => lhs; rw [e1]
      rw [Nat.testBit_two_pow_mul_add _ (by rw [Nat.pow_succ]; omega), if_neg hi]
    rw [this]; simp

theorem and_neg {x : Int} (hx : W x) {k : Nat} (hk64 : k < 64) (hk : Low x k) : bits .and .u64 x (IntKind.u64.wrap (-x)) = 2 ^ k := by
  have hn0 := low_ne hk
  obtain ⟨hp, tp⟩ := tb_pred hx hk
  have e : IntKind.u64.wrap (-x) = 18446744073709551616 - x := by
    rw [u64w]; have := hx.1; have := hx.2; omega
  have ex : 18446744073709551616 - x = bits .xor .u64 18446744073709551615 (x - 1) := by
    obtain ⟨m, hm, hm2⟩ := hp.nat
    rw [hm, show (18446744073709551615 : Int) = ((2 ^ 64 - 1 : Nat) : Int) by rfl, xor_nat (by decide) hm2]
    have : (2 ^ 64 - 1) ^^^ m = 2 ^ 64 - (m + 1) := Nat.eq_of_testBit_eq fun i => by
      rw [Nat.testBit_xor, Nat.testBit_two_pow_sub_one, Nat.testBit_two_pow_sub_succ hm2]
      by_cases hi : i < 64
      · simp [hi]
      · rw [decide_eq_false hi, Nat.testBit_lt_two_pow (Nat.lt_of_lt_of_le hm2 (Nat.pow_le_pow_right (by decide) (by omega)))]; rfl
    rw [this]; omega
  have hW2 : W (2 ^ k : Int) := by
    have : 2 ^ k < 2 ^ 64 := Nat.pow_lt_pow_right (by decide) hk64
    have e2 : (2 : Int) ^ k = ((2 ^ k : Nat) : Int) := by push_cast; rfl
    rw [e2]; exact W_nat this
  rw [e, ex]
  refine ext (W_and hx (W_xor W_ones hp)) hW2 fun i hi => ?_
  rw [tb_and hx (W_xor W_ones hp), tb_xor W_ones hp, tb_ones, tp, show (2 : Int) ^ k = ((2 ^ k : Nat) : Int) by push_cast; rfl, tb_nat, Nat.testBit_two_pow, decide_eq_true hi]
  by_cases h1 : i < k
  · rw [hk.2 i h1, decide_eq_false (p := k = i) (by omega)]; simp
  · by_cases h2 : k < i
    · rw [decide_eq_false h1, decide_eq_true h2, decide_eq_false (p := k = i) (by omega)]; cases tb x i <;> rfl
    · obtain rfl : i = k := by omega
      rw [hk.1]; simp

/-! ### counts -/
/-- How many of the first n places p holds. -/
def cnt (p : Nat → Bool) : Nat → Nat
  | 0 => 0
  | n + 1 => cnt p n + (if p n then 1 else 0)

theorem cnt_congr {p q : Nat → Bool} {n : Nat} (h : ∀ i, i < n → p i = q i) : cnt p n = cnt q n := by
  induction n with
  | zero => rfl
  | succ n ih => rw [cnt, cnt, ih fun i hi => h i (by omega), h n (by omega)]

theorem cnt_add (p : Nat → Bool) (a b : Nat) : cnt p (a + b) = cnt p a + cnt (fun i => p (a + i)) b := by
  induction b with
  | zero => rfl
  | succ b ih => rw [← Nat.add_assoc, cnt, ih, cnt]; omega

theorem cnt_le (p : Nat → Bool) (n : Nat) : cnt p n ≤ n := by
  induction n with
  | zero => exact Nat.le_refl _
  | succ n ih => rw [cnt]; split <;> omega

theorem cnt_mono (p : Nat → Bool) {a b : Nat} (h : a ≤ b) : cnt p a ≤ cnt p b := by
  obtain ⟨c, rfl⟩ : ∃ c, b = a + c := ⟨b - a, by omega⟩
  rw [cnt_add]; omega
end Go.Proofs.YticoepbjpeepcaaDoor.Bt
