/- The count of ones, as math/bits reckons it: byte by byte. -/
import Derived.Test.YticoepbjpeepcaaDoorBt
import Derived.KernelRfl
namespace Go.Proofs.YticoepbjpeepcaaDoor.Pop
open Go Go.RowKit Go.Proofs.YticoepbjpeepcaaDoorW.PrintWords Go.Proofs.YticoepbjpeepcaaDoorW.PrintLast Go.Proofs.YticoepbjpeepcaaDoorW.PrintMore
open Go.Proofs.YticoepbjpeepcaaDoor.Eo Go.Proofs.YticoepbjpeepcaaDoor.Wd Go.Proofs.YticoepbjpeepcaaDoor.Bt
set_option linter.unusedVariables false
set_option linter.unusedSimpArgs false
set_option linter.unusedSectionVars false

def val : List Nat → Nat
  | [] => 0
  | b :: L => b + 256 * val L
def rep (m : Nat) : Nat → Nat
  | 0 => 0
  | n + 1 => m + 256 * rep m n

theorem tb8 {r q : Nat} (hr : r < 256) (j : Nat) : (r + 256 * q).testBit j = if j < 8 then r.testBit j else q.testBit (j - 8) := by
  rw [show r + 256 * q = 2 ^ 8 * q + r by omega]
  exact Nat.testBit_two_pow_mul_add _ (by omega) _

theorem land_split {r s q m : Nat} (hr : r < 256) (hs : s < 256) : (r + 256 * q) &&& (s + 256 * m) = (r &&& s) + 256 * (q &&& m) :=
  Nat.eq_of_testBit_eq fun j => by
    rw [Nat.testBit_and, tb8 hr, tb8 hs, tb8 (Nat.and_lt_two_pow (n := 8) _ (by omega))]
    split <;> rw [Nat.testBit_and]

def g1 (b : Nat) : Nat := (b / 2 &&& 85) + (b &&& 85)
def g2 (b : Nat) : Nat := (b / 4 &&& 51) + (b &&& 51)
def g3 (b : Nat) : Nat := (b / 16 + b) &&& 15
def pc (b : Nat) : Nat := cnt (fun i => b.testBit i) 8

theorem dec1 : ∀ b : Fin 256, ∀ e : Fin 2, (b.1 / 2 + 128 * e.1) < 256 ∧ (b.1 / 2 + 128 * e.1) &&& 85 = b.1 / 2 &&& 85 := by decide +kernel
theorem dec2 : ∀ b : Fin 256, ∀ e : Fin 4, (b.1 / 4 + 64 * e.1) < 256 ∧ (b.1 / 4 + 64 * e.1) &&& 51 = b.1 / 4 &&& 51 := by decide +kernel
theorem dec3 : ∀ b : Fin 256, ∀ e : Fin 5, b.1 / 16 ≤ 4 → b.1 % 16 ≤ 4 → (b.1 / 16 + b.1 + 16 * e.1) < 256 ∧ (b.1 / 16 + b.1 + 16 * e.1) &&& 15 = g3 b.1 := by decide +kernel
theorem dec4 : ∀ b : Fin 256, g1 b.1 < 256 ∧ g2 (g1 b.1) < 256 ∧ g2 (g1 b.1) / 16 ≤ 4 ∧ g2 (g1 b.1) % 16 ≤ 4 ∧ g3 (g2 (g1 b.1)) = pc b.1 ∧ pc b.1 ≤ 8 := by decide +kernel

theorem stage1 : ∀ L : List Nat, (∀ b ∈ L, b < 256) → (val L / 2 &&& rep 85 L.length) + (val L &&& rep 85 L.length) = val (L.map g1) := by
  intro L
  induction L with
  | nil => intro _; rfl
  | cons b L ih =>
    intro h
    have hb := h b (List.mem_cons_self ..)
    have ih' := ih fun c hc => h c (List.mem_cons_of_mem _ hc)
    obtain ⟨d1, d2⟩ := dec1 ⟨b, hb⟩ ⟨val L % 2, by omega⟩
    show ((b + 256 * val L) / 2 &&& (85 + 256 * rep 85 L.length)) + ((b + 256 * val L) &&& (85 + 256 * rep 85 L.length)) = g1 b + 256 * val (L.map g1)
    rw [show (b + 256 * val L) / 2 = (b / 2 + 128 * (val L % 2)) + 256 * (val L / 2) by omega, land_split d1 (by omega), land_split hb (by omega), d2, ← ih']
    unfold g1; simp only; omega

theorem stage2 : ∀ L : List Nat, (∀ b ∈ L, b < 256) → (val L / 4 &&& rep 51 L.length) + (val L &&& rep 51 L.length) = val (L.map g2) := by
  intro L
  induction L with
  | nil => intro _; rfl
  | cons b L ih =>
    intro h
    have hb := h b (List.mem_cons_self ..)
    have ih' := ih fun c hc => h c (List.mem_cons_of_mem _ hc)
    obtain ⟨d1, d2⟩ := dec2 ⟨b, hb⟩ ⟨val L % 4, by omega⟩
    show ((b + 256 * val L) / 4 &&& (51 + 256 * rep 51 L.length)) + ((b + 256 * val L) &&& (51 + 256 * rep 51 L.length)) = g2 b + 256 * val (L.map g2)
    rw [show (b + 256 * val L) / 4 = (b / 4 + 64 * (val L % 4)) + 256 * (val L / 4) by omega, land_split d1 (by omega), land_split hb (by omega), d2, ← ih']
    unfold g2; simp only; omega

theorem stage3 : ∀ L : List Nat, (∀ b ∈ L, b < 256 ∧ b / 16 ≤ 4 ∧ b % 16 ≤ 4) → ((val L / 16 + val L) &&& rep 15 L.length) = val (L.map g3) := by
  intro L
  induction L with
  | nil => intro _; rfl
  | cons b L ih =>
    intro h
    have hb := h b (List.mem_cons_self ..)
    have ih' := ih fun c hc => h c (List.mem_cons_of_mem _ hc)
    have hv : val L % 16 ≤ 4 := by
      cases L with
      | nil => exact Nat.zero_le _
      | cons c M =>
        have := (h c (by simp)).2.2
        show (c + 256 * val M) % 16 ≤ 4
        omega
    obtain ⟨d1, d2⟩ := dec3 ⟨b, hb.1⟩ ⟨val L % 16, by omega⟩ hb.2.1 hb.2.2
    show (((b + 256 * val L) / 16 + (b + 256 * val L)) &&& (15 + 256 * rep 15 L.length)) = g3 b + 256 * val (L.map g3)
    rw [show (b + 256 * val L) / 16 + (b + 256 * val L) = (b / 16 + b + 16 * (val L % 16)) + 256 * (val L / 16 + val L) by omega, land_split d1 (by omega), d2, ← ih']

theorem val_lt : ∀ L : List Nat, (∀ b ∈ L, b < 256) → val L < 256 ^ L.length := by
  intro L
  induction L with
  | nil => intro _; exact Nat.one_pos
  | cons b L ih =>
    intro h
    have hb := h b (List.mem_cons_self ..)
    have ih' := ih fun c hc => h c (List.mem_cons_of_mem _ hc)
    show b + 256 * val L < 256 ^ (L.length + 1)
    rw [Nat.pow_succ]; omega

def sum : List Nat → Nat
  | [] => 0
  | b :: L => b + sum L

theorem cnt_val : ∀ L : List Nat, (∀ b ∈ L, b < 256) → cnt (fun i => (val L).testBit i) (8 * L.length) = sum (L.map pc) := by
  intro L
  induction L with
  | nil => intro _; rfl
  | cons b L ih =>
    intro h
    have hb := h b (List.mem_cons_self ..)
    have ih' := ih fun c hc => h c (List.mem_cons_of_mem _ hc)
    show cnt (fun i => (b + 256 * val L).testBit i) (8 * (L.length + 1)) = pc b + sum (L.map pc)
    rw [show 8 * (L.length + 1) = 8 + 8 * L.length by omega, cnt_add, ← ih']
    congr 1
    · exact cnt_congr fun i hi => by rw [tb8 hb, if_pos hi]
    · exact cnt_congr fun i hi => by
        show (b + 256 * val L).testBit (8 + i) = _
        rw [tb8 hb, if_neg (by omega), show 8 + i - 8 = i by omega]

def bytes (x : Nat) : List Nat := [x % 256, x / 256 % 256, x / 65536 % 256, x / 16777216 % 256, x / 4294967296 % 256, x / 1099511627776 % 256, x / 281474976710656 % 256, x / 72057594037927936]

theorem bytes_val {x : Nat} (h : x < 18446744073709551616) : val (bytes x) = x ∧ ∀ b ∈ bytes x, b < 256 := by
  constructor
  · simp only [bytes, val]; omega
  · intro b hb
    simp only [bytes, List.mem_cons, List.not_mem_nil, or_false] at hb
    omega

def y1 (a : Int) : Int := IntKind.u64.wrap ((Go.bits .and .u64 (a / 2) 6148914691236517205) + (Go.bits .and .u64 a 6148914691236517205))
def y2 (a : Int) : Int := IntKind.u64.wrap ((Go.bits .and .u64 (a / 4) 3689348814741910323) + (Go.bits .and .u64 a 3689348814741910323))
def y3 (a : Int) : Int := Go.bits .and .u64 (IntKind.u64.wrap (a / 16 + a)) 1085102592571150095
def y4 (a : Int) : Int := IntKind.u64.wrap (a + a / 256)
def y5 (a : Int) : Int := IntKind.u64.wrap (a + a / 65536)
def y6 (a : Int) : Int := IntKind.u64.wrap (a + a / 4294967296)
def swar (a : Int) : Int := Go.bits .and .i64 (wrap64 (y6 (y5 (y4 (y3 (y2 (y1 a))))))) 127

theorem all_map {p q : Nat → Prop} {f : Nat → Nat} {L : List Nat} (h : ∀ b ∈ L, p b) (hf : ∀ b, p b → q (f b)) : ∀ b ∈ L.map f, q b := by
  intro b hb
  obtain ⟨c, hc, rfl⟩ := List.mem_map.mp hb
  exact hf c (h c hc)

theorem len_map8 {L : List Nat} (f : Nat → Nat) (h : L.length = 8) : (L.map f).length = 8 := by rw [List.length_map, h]

theorem y1_val {L : List Nat} (hl : L.length = 8) (h : ∀ b ∈ L, b < 256) (h' : ∀ b ∈ L.map g1, b < 256) : y1 (val L : Int) = ((val (L.map g1) : Nat) : Int) := by
  have e := stage1 L h
  have l0 := val_lt L h
  have l1 := val_lt _ h'
  rw [hl] at e l0
  rw [len_map8 _ hl] at l1
  have er : rep 85 8 = 6148914691236517205 := rfl
  rw [er] at e
  unfold y1
  rw [show ((val L : Int) / 2) = ((val L / 2 : Nat) : Int) by omega, show (6148914691236517205 : Int) = ((6148914691236517205 : Nat) : Int) by rfl, and_nat (by omega) (by decide), and_nat (by omega) (by decide)]
  rw [u64i (by omega) (by omega)]
  omega

theorem y2_val {L : List Nat} (hl : L.length = 8) (h : ∀ b ∈ L, b < 256) (h' : ∀ b ∈ L.map g2, b < 256) : y2 (val L : Int) = ((val (L.map g2) : Nat) : Int) := by
  have e := stage2 L h
  have l0 := val_lt L h
  have l1 := val_lt _ h'
  rw [hl] at e l0
  rw [len_map8 _ hl] at l1
  have er : rep 51 8 = 3689348814741910323 := rfl
  rw [er] at e
  unfold y2
  rw [show ((val L : Int) / 4) = ((val L / 4 : Nat) : Int) by omega, show (3689348814741910323 : Int) = ((3689348814741910323 : Nat) : Int) by rfl, and_nat (by omega) (by decide), and_nat (by omega) (by decide)]
  rw [u64i (by omega) (by omega)]
  omega

theorem val_top {L : List Nat} (hl : L.length = 8) (h : ∀ b ∈ L, b < 256 ∧ b / 16 ≤ 4 ∧ b % 16 ≤ 4) : val L ≤ 4919131752989213764 := by
  match L, hl with
  | [a, b, c, d, e, f, g, i], _ =>
    have h1 := h a (by simp)
    have h2 := h b (by simp)
    have h3 := h c (by simp)
    have h4 := h d (by simp)
    have h5 := h e (by simp)
    have h6 := h f (by simp)
    have h7 := h g (by simp)
    have h8 := h i (by simp)
    simp only [val]; omega

theorem y3_val {L : List Nat} (hl : L.length = 8) (h : ∀ b ∈ L, b < 256 ∧ b / 16 ≤ 4 ∧ b % 16 ≤ 4) : y3 (val L : Int) = ((val (L.map g3) : Nat) : Int) := by
  have e := stage3 L h
  have l0 := val_top hl h
  rw [hl] at e
  have er : rep 15 8 = 1085102592571150095 := rfl
  rw [er] at e
  unfold y3
  rw [show ((val L : Int) / 16 + (val L : Int)) = ((val L / 16 + val L : Nat) : Int) by omega, show (1085102592571150095 : Int) = ((1085102592571150095 : Nat) : Int) by rfl, u64i (by omega) (by omega), and_nat (by omega) (by decide), e]

theorem and_i64 {n : Nat} (h : n < 9223372036854775808) : Go.bits .and .i64 (n : Int) 127 = ((n % 128 : Nat) : Int) := by
  have hx : n &&& 127 = n % 128 := by
    rw [show (127 : Nat) = 2 ^ 7 - 1 by rfl, Nat.and_two_pow_sub_one_eq_mod]
  show IntKind.i64.wrap ((BitVec.ofInt 64 (n : Int) &&& BitVec.ofInt 64 (127 : Int)).toNat : Int) = _
  rw [BitVec.toNat_and, ofInt_toNat (by omega), show (BitVec.ofInt 64 127).toNat = 127 by rfl, hx, i64_w]
  exact w64 (by omega) (by omega)

theorem fold {L : List Nat} (hl : L.length = 8) (h : ∀ b ∈ L, b ≤ 8) : Go.bits .and .i64 (wrap64 (y6 (y5 (y4 (val L : Int))))) 127 = ((sum L : Nat) : Int) := by
  match L, hl with
  | [a, b, c, d, e, f, g, i], _ =>
    have h1 := h a (by simp)
    have h2 := h b (by simp)
    have h3 := h c (by simp)
    have h4 := h d (by simp)
    have h5 := h e (by simp)
    have h6 := h f (by simp)
    have h7 := h g (by simp)
    have h8 := h i (by simp)
    clear h
    have e4 : y4 (val [a, b, c, d, e, f, g, i] : Int) = ((val [a + b, b + c, c + d, d + e, e + f, f + g, g + i, i] : Nat) : Int) := by
      unfold y4; simp only [val]
      rw [u64i (by omega) (by omega)]; omega
    have e5 : y5 (val [a + b, b + c, c + d, d + e, e + f, f + g, g + i, i] : Int) = ((val [a + b + c + d, b + c + d + e, c + d + e + f, d + e + f + g, e + f + g + i, f + g + i, g + i, i] : Nat) : Int) := by
      unfold y5; simp only [val]
      rw [u64i (by omega) (by omega)]; omega
    have e6 : y6 (val [a + b + c + d, b + c + d + e, c + d + e + f, d + e + f + g, e + f + g + i, f + g + i, g + i, i] : Int) = ((val [a + b + c + d + e + f + g + i, b + c + d + e + f + g + i, c + d + e + f + g + i, d + e + f + g + i, e + f + g + i, f + g + i, g + i, i] : Nat) : Int) := by
      unfold y6; simp only [val]
      rw [u64i (by omega) (by omega)]; omega
    rw [e4, e5, e6]
    clear e4 e5 e6
    simp only [val]
    rw [w64 (by omega) (by omega), and_i64 (by omega)]
    simp only [sum]
    omega

/-- What math/bits answers: how many ones. -/
theorem swar_eq {x : Int} (hx : W x) : swar x = ((cnt (tb x) 64 : Nat) : Int) := by
  obtain ⟨n, rfl, hn⟩ := hx.nat
  obtain ⟨hv, hb⟩ := bytes_val hn
  have hl : (bytes n).length = 8 := rfl
  generalize bytes n = L at hv hb hl
  subst hv
  have b1 : ∀ b ∈ L.map g1, b < 256 := all_map hb fun b h => (dec4 ⟨b, h⟩).1
  have b2 : ∀ b ∈ (L.map g1).map g2, b < 256 ∧ b / 16 ≤ 4 ∧ b % 16 ≤ 4 := by
    rw [List.map_map]
    exact all_map hb fun b h => ⟨(dec4 ⟨b, h⟩).2.1, (dec4 ⟨b, h⟩).2.2.1, (dec4 ⟨b, h⟩).2.2.2.1⟩
  unfold swar
  rw [y1_val hl hb b1, y2_val (len_map8 _ hl) b1 (fun b h => (b2 b h).1), y3_val (len_map8 _ (len_map8 _ hl)) b2]
  have e3 : ((L.map g1).map g2).map g3 = L.map pc := by
    rw [List.map_map, List.map_map]
    exact List.map_congr_left fun b h => (dec4 ⟨b, hb b h⟩).2.2.2.2.1
  rw [e3, fold (len_map8 _ hl) (all_map hb fun b h => (dec4 ⟨b, h⟩).2.2.2.2.2), ← cnt_val L hb, hl]
  congr 1
end Go.Proofs.YticoepbjpeepcaaDoor.Pop
