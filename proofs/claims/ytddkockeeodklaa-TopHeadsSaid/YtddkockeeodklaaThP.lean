/- A header's word says what the header is; a word in which one of its fields is put anew is that header's, or none's. For whatever header, entry and number. -/
import Derived.Test.YtddkockeeodklaaHdC
import Derived.Test.YtddkockeeodklaaBt
namespace Go.Proofs.Ytddkockeeodklaa.Pure
open Go.RowKit Go.Proofs.Ytddkockeeodklaa.PAll Go.Proofs.YtddkockeeodklaaW.PrintWords Go.Proofs.YtddkockeeodklaaW.PrintLast Go.Proofs.YtddkockeeodklaaW.PrintMore
open Go.Proofs.Ytddkockeeodklaa.Eo Go.Proofs.Ytddkockeeodklaa.Wd Go.Proofs.Ytddkockeeodklaa.Hd Go.Proofs.Ytddkockeeodklaa.Bt
set_option linter.unusedVariables false
set_option linter.unusedSimpArgs false

def putW (w a n v : Int) : Int := Go.bits .or .u64 (Go.bits .andNot .u64 w (shl .u64 (2 ^ n.toNat - 1) a)) (shl .u64 v a)

theorem putW_W {w v : Int} (hw : W w) (hv : W v) (a n : Int) : W (putW w a n v) := W_or (W_andNot hw (W_shl _ _)) (W_shl _ _)

theorem putW_tb {w v : Int} (hw : W w) (hv : W v) {a n : Nat} (han : a + n ≤ 64) (hvn : v < 2 ^ n) {i : Nat} (hi : i < 64) :
    tb (putW w a n v) i = if a ≤ i ∧ i < a + n then tb v (i - a) else tb w i := by
  unfold putW
  have hz := (lt_iff hv (n := n) (by omega)).mp hvn
  rw [tb_or (W_andNot hw (W_shl _ _)) (W_shl _ _), tb_andNot hw (W_shl _ _), Int.toNat_natCast, tb_shl (W_mask (by omega)) (by omega), tb_shl hv (by omega), tb_mask, Int.toNat_natCast, decide_eq_true hi]
  by_cases h1 : a ≤ i
  · rw [decide_eq_true (p := (a : Int) ≤ i) (by omega)]
    by_cases h2 : i < a + n
    · rw [if_pos ⟨h1, h2⟩, decide_eq_true (p := i - a < n) (by omega)]; simp
    · rw [if_neg (fun z => h2 z.2), decide_eq_false (p := i - a < n) (by omega), hz (i - a) (by omega) (by omega)]; simp
  · rw [if_neg (fun z => h1 z.1), decide_eq_false (p := (a : Int) ≤ i) (by omega)]; simp

theorem put_any {w v : Int} (hw : W w) (hv : W v) {a n : Nat} (hn : 1 ≤ n) (han : a + n ≤ 64) (h : v < 2 ^ n) : word_Put.f w a n v = some (putW w a n v, 0) := by
  unfold word_Put.f
  rw [field_eq, decide_eq_true (by omega)]
  refine bnd rfl (itp rfl (bnd (mask_eq (by omega)) ?_))
  exact itp ((andNot_zero_iff hv (by omega)).mpr h) (bnd (mask_eq (by omega)) (itp (by omega) (by unfold putW; rw [Int.toNat_natCast])))

theorem headW_W {c k l : Int} (h : headP c k l) : W (headW c k l) := by
  unfold headP at h; unfold headW W; omega

/-- A length put anew into a header's word. -/
theorem put_len {c k l n : Int} (h : headP c k l) (hn : 0 ≤ n ∧ n < 256) : word_Put.f (headW c k l) 16 8 n = some (headW c k n, 0) := by
  have hw := headW_W h
  have hv : W n := ⟨hn.1, by omega⟩
  have hx := putW_W hw hv ((16 : Nat) : Int) ((8 : Nat) : Int)
  have tx := fun i hi => putW_tb hw hv (a := 16) (n := 8) (by omega) hn.2 (i := i) hi
  have e := put_any hw hv (a := 16) (n := 8) (by omega) (by omega) hn.2
  refine e.trans ?_
  generalize putW (headW c k l) ((16 : Nat) : Int) ((8 : Nat) : Int) n = x at hx tx ⊢
  have hz := (lt_iff hv (n := 8) (by omega)).mp hn.2
  have e1 : x % 2 ^ 16 = headW c k l % 2 ^ 16 := by
    refine ext ⟨Int.emod_nonneg _ (by decide), by have := Int.emod_lt_of_pos x (b := 2 ^ 16) (by decide); omega⟩ ⟨Int.emod_nonneg _ (by decide), by have := Int.emod_lt_of_pos (headW c k l) (b := 2 ^ 16) (by decide); omega⟩ fun i hi => ?_
    rw [tb_mod hx.1, tb_mod hw.1, tx i hi]
    by_cases hi2 : i < 16
    · rw [if_neg (by omega)]
    · rw [decide_eq_false hi2]; rfl
  have e2 : x / 2 ^ 16 % 2 ^ 8 = n := by
    have h0 : 0 ≤ x / 2 ^ 16 := Int.ediv_nonneg hx.1 (by decide)
    refine ext ⟨Int.emod_nonneg _ (by decide), by have := Int.emod_lt_of_pos (x / 2 ^ 16) (b := 2 ^ 8) (by decide); omega⟩ hv fun i hi => ?_
    rw [tb_mod h0, tb_div hx.1]
    by_cases hi2 : i < 8
    · rw [decide_eq_true hi2, tx _ (by omega), if_pos (by omega), show 16 + i - 16 = i by omega]; rfl
    · rw [decide_eq_false hi2, hz i (by omega) hi]; rfl
  have e3 : x / 2 ^ 24 = headW c k l / 2 ^ 24 := by
    have b1 : x / 2 ^ 24 ≤ x := Int.ediv_le_self _ hx.1
    have b2 : headW c k l / 2 ^ 24 ≤ headW c k l := Int.ediv_le_self _ hw.1
    refine ext ⟨Int.ediv_nonneg hx.1 (by decide), by have := hx.2; omega⟩ ⟨Int.ediv_nonneg hw.1 (by decide), by have := hw.2; omega⟩ fun i hi => ?_
    rw [tb_div hx.1, tb_div hw.1]
    by_cases hi2 : 24 + i < 64
    · rw [tx _ hi2, if_neg (by omega)]
    · rw [tb_high hx (by omega), tb_high hw (by omega)]
  clear tx hz e
  have hxx : x = headW c k n := by
    unfold headW at *
    unfold headP at h
    rw [show (2 : Int) ^ 16 = 65536 by rfl] at e1 e2
    rw [show (2 : Int) ^ 8 = 256 by rfl] at e2
    rw [show (2 : Int) ^ 24 = 16777216 by rfl] at e3
    omega
  rw [hxx]

end Go.Proofs.Ytddkockeeodklaa.Pure
