/- Words of 64 bits, as whole numbers: their bits. -/
import Derived.Laws.BitsLemmas
import Derived.Laws.Bits64
import Derived.Test.YtcnledehnefldaaWMore
import Derived.Test.YtcnledehnefldaaEo
namespace Go.Proofs.Ytcnledehnefldaa.Wd
open Go Go.Proofs.YtcnledehnefldaaW.PrintWords Go.Proofs.YtcnledehnefldaaW.PrintLast Go.Proofs.YtcnledehnefldaaW.PrintMore Go.Proofs.Ytcnledehnefldaa.Eo
set_option linter.unusedVariables false
set_option linter.unusedSimpArgs false

/-- A word. -/
def W (x : Int) : Prop := 0 ≤ x ∧ x < 18446744073709551616

/-- A bit of it. -/
def tb (x : Int) (i : Nat) : Bool := x.toNat.testBit i

theorem W.nat {x : Int} (h : W x) : ∃ n : Nat, x = n ∧ n < 2 ^ 64 := ⟨x.toNat, by have := h.1; omega, by have := h.2; omega⟩
theorem W_nat {n : Nat} (h : n < 2 ^ 64) : W (n : Int) := ⟨by omega, by omega⟩

theorem tb_nat (n i : Nat) : tb (n : Int) i = n.testBit i := by simp [tb]

theorem tb_high {x : Int} (h : W x) {i : Nat} (hi : 64 ≤ i) : tb x i = false := by
  obtain ⟨n, rfl, hn⟩ := h.nat
  rw [tb_nat]
  exact Nat.testBit_lt_two_pow (Nat.lt_of_lt_of_le hn (Nat.pow_le_pow_right (by decide) hi))

theorem ext {x y : Int} (hx : W x) (hy : W y) (h : ∀ i, i < 64 → tb x i = tb y i) : x = y := by
  obtain ⟨n, rfl, hn⟩ := hx.nat
  obtain ⟨m, rfl, hm⟩ := hy.nat
  congr 1
  refine Nat.eq_of_testBit_eq fun i => ?_
  by_cases hi : i < 64
  · have := h i hi; rwa [tb_nat, tb_nat] at this
  · rw [Nat.testBit_lt_two_pow (Nat.lt_of_lt_of_le hn (Nat.pow_le_pow_right (by decide) (by omega))), Nat.testBit_lt_two_pow (Nat.lt_of_lt_of_le hm (Nat.pow_le_pow_right (by decide) (by omega)))]

theorem ofInt_toNat {a : Nat} (ha : a < 2 ^ 64) : (BitVec.ofInt 64 (a : Int)).toNat = a := by
  rw [BitVec.ofInt_natCast, BitVec.toNat_ofNat]; exact Nat.mod_eq_of_lt ha

theorem and_nat {a b : Nat} (ha : a < 2 ^ 64) (hb : b < 2 ^ 64) : bits .and .u64 (a : Int) (b : Int) = ((a &&& b : Nat) : Int) := by
  have hx : a &&& b < 2 ^ 64 := Nat.and_lt_two_pow _ hb
  show IntKind.u64.wrap ((BitVec.ofInt 64 (a : Int) &&& BitVec.ofInt 64 (b : Int)).toNat : Int) = _
  rw [BitVec.toNat_and, ofInt_toNat ha, ofInt_toNat hb, IntKind.wrap_u64]
  omega
theorem or_nat {a b : Nat} (ha : a < 2 ^ 64) (hb : b < 2 ^ 64) : bits .or .u64 (a : Int) (b : Int) = ((a ||| b : Nat) : Int) := by
  have hx : a ||| b < 2 ^ 64 := Nat.or_lt_two_pow ha hb
  show IntKind.u64.wrap ((BitVec.ofInt 64 (a : Int) ||| BitVec.ofInt 64 (b : Int)).toNat : Int) = _
  rw [BitVec.toNat_or, ofInt_toNat ha, ofInt_toNat hb, IntKind.wrap_u64]
  omega
theorem xor_nat {a b : Nat} (ha : a < 2 ^ 64) (hb : b < 2 ^ 64) : bits .xor .u64 (a : Int) (b : Int) = ((a ^^^ b : Nat) : Int) := bits_xor_u64_nat a b ha hb
theorem andNot_nat {a b : Nat} (ha : a < 2 ^ 64) (hb : b < 2 ^ 64) : bits .andNot .u64 (a : Int) (b : Int) = ((a &&& (2 ^ 64 - (b + 1)) : Nat) : Int) := by
  have hx : a &&& (2 ^ 64 - (b + 1)) < 2 ^ 64 := Nat.and_lt_two_pow _ (by omega)
  show IntKind.u64.wrap ((BitVec.ofInt 64 (a : Int) &&& ~~~ BitVec.ofInt 64 (b : Int)).toNat : Int) = _
  rw [BitVec.toNat_and, BitVec.toNat_not, ofInt_toNat ha, ofInt_toNat hb, IntKind.wrap_u64]
  rw [show 2 ^ 64 - 1 - b = 2 ^ 64 - (b + 1) by omega]
  omega

theorem W_and {x y : Int} (hx : W x) (hy : W y) : W (bits .and .u64 x y) := by
  obtain ⟨n, rfl, hn⟩ := hx.nat
  obtain ⟨m, rfl, hm⟩ := hy.nat
  rw [and_nat hn hm]; exact W_nat (Nat.and_lt_two_pow _ hm)
theorem W_or {x y : Int} (hx : W x) (hy : W y) : W (bits .or .u64 x y) := by
  obtain ⟨n, rfl, hn⟩ := hx.nat
  obtain ⟨m, rfl, hm⟩ := hy.nat
  rw [or_nat hn hm]; exact W_nat (Nat.or_lt_two_pow hn hm)
theorem W_xor {x y : Int} (hx : W x) (hy : W y) : W (bits .xor .u64 x y) := by
  obtain ⟨n, rfl, hn⟩ := hx.nat
  obtain ⟨m, rfl, hm⟩ := hy.nat
  rw [xor_nat hn hm]; exact W_nat (Nat.xor_lt_two_pow hn hm)
theorem W_andNot {x y : Int} (hx : W x) (hy : W y) : W (bits .andNot .u64 x y) := by
  obtain ⟨n, rfl, hn⟩ := hx.nat
  obtain ⟨m, rfl, hm⟩ := hy.nat
  rw [andNot_nat hn hm]; exact W_nat (Nat.and_lt_two_pow _ (by omega))
theorem W_wrap (x : Int) : W (IntKind.u64.wrap x) := by rw [IntKind.wrap_u64]; unfold W; omega
theorem W_shl (x n : Int) : W (shl .u64 x n) := W_wrap _
theorem W_shr {x n : Int} (hx : W x) : W (shr .u64 x n) := by
  obtain ⟨a, rfl, ha⟩ := hx.nat
  have e : shr .u64 (a : Int) n = ((a / 2 ^ min n.toNat 64 : Nat) : Int) := by
    unfold shr; push_cast; rfl
  rw [e]; exact W_nat (Nat.lt_of_le_of_lt (Nat.div_le_self _ _) ha)

theorem tb_and {x y : Int} (hx : W x) (hy : W y) (i : Nat) : tb (bits .and .u64 x y) i = (tb x i && tb y i) := by
  obtain ⟨n, rfl, hn⟩ := hx.nat
  obtain ⟨m, rfl, hm⟩ := hy.nat
  rw [and_nat hn hm, tb_nat, tb_nat, tb_nat, Nat.testBit_and]
theorem tb_or {x y : Int} (hx : W x) (hy : W y) (i : Nat) : tb (bits .or .u64 x y) i = (tb x i || tb y i) := by
  obtain ⟨n, rfl, hn⟩ := hx.nat
  obtain ⟨m, rfl, hm⟩ := hy.nat
  rw [or_nat hn hm, tb_nat, tb_nat, tb_nat, Nat.testBit_or]
theorem tb_xor {x y : Int} (hx : W x) (hy : W y) (i : Nat) : tb (bits .xor .u64 x y) i = (tb x i ^^ tb y i) := by
  obtain ⟨n, rfl, hn⟩ := hx.nat
  obtain ⟨m, rfl, hm⟩ := hy.nat
  rw [xor_nat hn hm, tb_nat, tb_nat, tb_nat, Nat.testBit_xor]
theorem tb_andNot {x y : Int} (hx : W x) (hy : W y) (i : Nat) : tb (bits .andNot .u64 x y) i = (tb x i && !tb y i) := by
  have hxi := hx
  obtain ⟨n, rfl, hn⟩ := hx.nat
  obtain ⟨m, rfl, hm⟩ := hy.nat
  rw [andNot_nat hn hm, tb_nat, tb_nat, tb_nat, Nat.testBit_and, Nat.testBit_two_pow_sub_succ hm]
  by_cases hi : i < 64
  · simp [hi]
  · rw [← tb_nat n i, tb_high hxi (by omega)]; simp
theorem tb_shl {x : Int} (hx : W x) {n : Int} (h0 : 0 ≤ n) (i : Nat) : tb (shl .u64 x n) i = (decide (i < 64) && decide (n ≤ i) && tb x (i - n.toNat)) := by
  obtain ⟨a, rfl, ha⟩ := hx.nat
  have e : shl .u64 (a : Int) n = ((a * 2 ^ min n.toNat 64 % 2 ^ 64 : Nat) : Int) := by
    show IntKind.u64.wrap ((a : Int) * 2 ^ min n.toNat 64) = _
    rw [IntKind.wrap_u64, Int.natCast_emod, Int.natCast_mul, Int.natCast_pow]; rfl
  rw [e, tb_nat, tb_nat, Nat.testBit_mod_two_pow, Nat.testBit_mul_two_pow]
  by_cases hi : i < 64
  · by_cases hn : n ≤ i
    · rw [Nat.min_eq_left (by omega)]
      simp [hi, hn, show n.toNat ≤ i by omega]
    · simp [hi, hn]; intro h; omega
  · simp [hi]
theorem tb_shr {x : Int} (hx : W x) {n : Int} (h0 : 0 ≤ n) (i : Nat) : tb (shr .u64 x n) i = tb x (i + n.toNat) := by
  have hxi := hx
  obtain ⟨a, rfl, ha⟩ := hx.nat
  have e : shr .u64 (a : Int) n = ((a / 2 ^ min n.toNat 64 : Nat) : Int) := by
    unfold shr; push_cast; rfl
  rw [e, tb_nat, Nat.testBit_div_two_pow, ← tb_nat]
  by_cases h : n.toNat ≤ 64
  · rw [Nat.min_eq_left h]
  · rw [tb_high hxi (by omega), tb_high hxi (by omega)]

theorem tb_mask (n i : Nat) : tb (2 ^ n - 1 : Int) i = decide (i < n) := by
  have e : (2 ^ n - 1 : Int) = ((2 ^ n - 1 : Nat) : Int) := by
    rw [Int.natCast_sub (Nat.two_pow_pos n)]; simp
  rw [e, tb_nat, Nat.testBit_two_pow_sub_one]
theorem W_mask {n : Nat} (h : n ≤ 64) : W (2 ^ n - 1 : Int) := by
  have h1 : 1 ≤ 2 ^ n := Nat.one_le_two_pow
  have h2 : 2 ^ n ≤ 2 ^ 64 := Nat.pow_le_pow_right (by decide) h
  have e : (2 ^ n - 1 : Int) = ((2 ^ n - 1 : Nat) : Int) := by
    rw [Int.natCast_sub (Nat.two_pow_pos n)]; simp
  rw [e]; exact W_nat (by omega)
theorem tb_zero (i : Nat) : tb 0 i = false := by simp [tb]
theorem W_zero : W 0 := by unfold W; omega
theorem W_ones : W 18446744073709551615 := by unfold W; omega
theorem tb_ones (i : Nat) : tb 18446744073709551615 i = decide (i < 64) := tb_mask 64 i

/-- The field's number. -/
theorem and_mask {x : Int} (hx : W x) {n : Nat} (hn : n ≤ 64) : bits .and .u64 x (2 ^ n - 1) = x % 2 ^ n := by
  have hm := W_mask hn
  obtain ⟨a, rfl, ha⟩ := hx.nat
  have e : (a : Int) % 2 ^ n = ((a % 2 ^ n : Nat) : Int) := by push_cast; rfl
  refine ext (W_and (W_nat ha) hm) (by rw [e]; exact W_nat (Nat.lt_of_le_of_lt (Nat.mod_le _ _) ha)) fun i hi => ?_
  rw [tb_and (W_nat ha) hm, tb_mask, e, tb_nat, tb_nat, Nat.testBit_mod_two_pow, Bool.and_comm]

/-- Two words without a common bit: one laid into the other. -/
theorem or_add {x y : Int} {n : Nat} (hx : W x) (hy0 : 0 ≤ y) (hy : y < 2 ^ n) (hd : x % 2 ^ n = 0) (hs : W (x + y)) : bits .or .u64 x y = x + y := by
  obtain ⟨a, rfl, ha⟩ := hx.nat
  obtain ⟨b, rfl⟩ := Int.eq_ofNat_of_zero_le hy0
  have hb : b < 2 ^ n := by exact_mod_cast hy
  have hd' : a % 2 ^ n = 0 := by exact_mod_cast hd
  have hab : a + b < 2 ^ 64 := by have := hs.2; omega
  have hq : a = 2 ^ n * (a / 2 ^ n) := by have := Nat.div_add_mod a (2 ^ n); omega
  rw [or_nat ha (by omega)]
  have : a ||| b = a + b := by
    rw [hq, ← Nat.two_pow_add_eq_or_of_lt hb (a / 2 ^ n)]
  rw [this]; simp

theorem or_comm' {x y : Int} (hx : W x) (hy : W y) : bits .or .u64 x y = bits .or .u64 y x :=
  ext (W_or hx hy) (W_or hy hx) fun i _ => by rw [tb_or hx hy, tb_or hy hx, Bool.or_comm]

/-- What lies above a mask. -/
theorem andNot_mask {x : Int} (hx : W x) {n : Nat} (hn : n ≤ 64) : bits .andNot .u64 x (2 ^ n - 1) = x / 2 ^ n * 2 ^ n := by
  have hm := W_mask hn
  obtain ⟨a, rfl, ha⟩ := hx.nat
  have e : (a : Int) / 2 ^ n * 2 ^ n = ((a / 2 ^ n * 2 ^ n : Nat) : Int) := by push_cast; rfl
  have hle : a / 2 ^ n * 2 ^ n ≤ a := Nat.div_mul_le_self _ _
  refine ext (W_andNot (W_nat ha) hm) (by rw [e]; exact W_nat (by omega)) fun i hi => ?_
  rw [tb_andNot (W_nat ha) hm, tb_mask, e, tb_nat, tb_nat, Nat.testBit_mul_two_pow]
  by_cases h : n ≤ i
  · rw [Nat.testBit_div_two_pow, show i - n + n = i by omega]; simp [h]
  · simp [h]; omega

theorem andNot_high {x y : Int} {n : Nat} (hx0 : 0 ≤ x) (hxn : x < 2 ^ n) (hx : W x) (hy : W y) (hd : y % 2 ^ n = 0) : bits .andNot .u64 x y = x := by
  refine ext (W_andNot hx hy) hx fun i hi => ?_
  rw [tb_andNot hx hy]
  obtain ⟨a, rfl, ha⟩ := hx.nat
  obtain ⟨b, rfl, hb⟩ := hy.nat
  have ha' : a < 2 ^ n := by exact_mod_cast hxn
  have hd' : b % 2 ^ n = 0 := by exact_mod_cast hd
  rw [tb_nat, tb_nat]
  by_cases h : i < n
  · have hbi : b.testBit i = false := by
      have := Nat.testBit_mod_two_pow b n i
      rw [hd'] at this
      simp [h] at this
      simpa using this
    simp [hbi]
  · rw [Nat.testBit_lt_two_pow (Nat.lt_of_lt_of_le ha' (Nat.pow_le_pow_right (by decide) (by omega)))]; simp

theorem andNot_zero_iff {x : Int} (hx : W x) {n : Nat} (hn : n ≤ 64) : bits .andNot .u64 x (2 ^ n - 1) = 0 ↔ x < 2 ^ n := by
  rw [andNot_mask hx hn]
  have hp : (0 : Int) < 2 ^ n := Int.pow_pos (by omega)
  constructor
  · intro h
    have h0 : x / 2 ^ n = 0 := by
      rcases Int.mul_eq_zero.mp h with h | h
      · exact h
      · omega
    have := Int.emod_lt_of_pos x hp
    have hdm := Int.mul_ediv_add_emod x (2 ^ n)
    rw [h0] at hdm
    omega
  · intro h
    rw [Int.ediv_eq_zero_of_lt hx.1 h, Int.zero_mul]
end Go.Proofs.Ytcnledehnefldaa.Wd
