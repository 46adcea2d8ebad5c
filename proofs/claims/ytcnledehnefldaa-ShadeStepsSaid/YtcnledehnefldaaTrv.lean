/- What a tape asks next, told from its answers, in plain words: the chapter's push, mark and shade at each row of answers. -/
import Derived.Test.YtcnledehnefldaaTpe
import Derived.Test.YtcnledehnefldaaOi
import Derived.Laws.BitsLemmas
import Derived.Laws.Bits64
import Derived.Test.YtcnledehnefldaaWMore
import Derived.Test.YtcnledehnefldaaEo
namespace Go.Proofs.Ytcnledehnefldaa.Dd
open Go Go.RowKit Go.Proofs.Ytcnledehnefldaa.Hp Go.Proofs.Ytcnledehnefldaa.PH Go.Proofs.Ytcnledehnefldaa.Ar Go.Proofs.Ytcnledehnefldaa.Eo
open Go.Proofs.YtcnledehnefldaaW.PrintLast (i64_w)
open Go.Proofs.YtcnledehnefldaaW.PrintWords (rd)
set_option linter.unusedVariables false
set_option linter.unusedSimpArgs false

section
variable {H : List Int} {i : Nat} {n1 n2 n3 n4 n5 n6 n7 : Int}
theorem ask_hit (hi : i < H.length) (hl : H.length ≤ 100) (kd at_ wt pt : Int) : windrowref03_Tape_Ask.f H i n1 n2 n3 n4 n5 n6 n7 false kd at_ wt pt = some (H.getD i 0, ((i + 1 : Nat) : Int), n1, n2, n3, n4, n5, n6, n7, false) := by
  unfold windrowref03_Tape_Ask.f
  have e1 : wrap64 ((i : Int) + 1) = ((i + 1 : Nat) : Int) := by rw [w64 (by omega) (by omega)]; push_cast; rfl
  have e2 : wrap64 (((i + 1 : Nat) : Int) - 1) = (i : Int) := by rw [w64 (by omega) (by omega)]; push_cast; omega
  rw [if_neg (by decide), if_pos (by omega), e1, e2, if_pos (by omega), if_pos (by omega)]
  unfold rd
  rw [Int.toNat_natCast]
theorem ask_miss (hl : H.length = i) (kd at_ wt pt : Int) : windrowref03_Tape_Ask.f H i n1 n2 n3 n4 n5 n6 n7 false kd at_ wt pt = some (0, (i : Int), 0, kd, at_, wt, pt, 0, 0, true) := by
  unfold windrowref03_Tape_Ask.f
  rw [if_neg (by decide), if_neg (by omega)]
theorem ask_stop (p : Int) (kd at_ wt pt : Int) : windrowref03_Tape_Ask.f H p n1 n2 n3 n4 n5 n6 n7 true kd at_ wt pt = some (0, p, n1, n2, n3, n4, n5, n6, n7, true) := by
  unfold windrowref03_Tape_Ask.f
  rw [if_pos rfl]
theorem load_hit (hi : i < H.length) (hl : H.length ≤ 100) (at_ : Int) : windrowref03_Tape_Load.f H i n1 n2 n3 n4 n5 n6 n7 false at_ = some (H.getD i 0, ((i + 1 : Nat) : Int), n1, n2, n3, n4, n5, n6, n7, false) := by
  unfold windrowref03_Tape_Load.f; rw [ask_hit hi hl]; rfl
theorem load_miss (hl : H.length = i) (at_ : Int) : windrowref03_Tape_Load.f H i n1 n2 n3 n4 n5 n6 n7 false at_ = some (0, (i : Int), 0, 1, at_, 0, 0, 0, 0, true) := by
  unfold windrowref03_Tape_Load.f; rw [ask_miss hl]; rfl
theorem load_stop (p at_ : Int) : windrowref03_Tape_Load.f H p n1 n2 n3 n4 n5 n6 n7 true at_ = some (0, p, n1, n2, n3, n4, n5, n6, n7, true) := by
  unfold windrowref03_Tape_Load.f; rw [ask_stop]; rfl
theorem stor_hit (hi : i < H.length) (hl : H.length ≤ 100) (at_ v : Int) : windrowref03_Tape_Store.f H i n1 n2 n3 n4 n5 n6 n7 false at_ v = some (((i + 1 : Nat) : Int), n1, n2, n3, n4, n5, n6, n7, false) := by
  unfold windrowref03_Tape_Store.f; rw [ask_hit hi hl]; rfl
theorem stor_miss (hl : H.length = i) (at_ v : Int) : windrowref03_Tape_Store.f H i n1 n2 n3 n4 n5 n6 n7 false at_ v = some ((i : Int), 0, 2, at_, 0, v, 0, 0, true) := by
  unfold windrowref03_Tape_Store.f; rw [ask_miss hl]; rfl
theorem stor_stop (p at_ v : Int) : windrowref03_Tape_Store.f H p n1 n2 n3 n4 n5 n6 n7 true at_ v = some (p, n1, n2, n3, n4, n5, n6, n7, true) := by
  unfold windrowref03_Tape_Store.f; rw [ask_stop]; rfl

/-! ### where the chapter's accesses go -/
variable {P T R t : Nat} (hr : Lay.right P T R) (ht : t < T)
include hr ht
theorem m_stat (x y z : Int) : windrowref06_Map_Status.f P T R x y z t = some ((16 + t * (5 + R) : Nat) : Int) := by
  have h6 := hr.2.2.2.1
  have hm := Lay.mul_le' (show t ≤ T by omega) h6 hr.2.2.2.2.2
  have hR := hr.2.2.2.2.2
  unfold windrowref06_Map_Status.f
  have e : (t : Int) * ((5 + R : Nat) : Int) = ((t * (5 + R) : Nat) : Int) := by push_cast; rfl
  rw [show wrap64 (5 + (R : Int)) = ((5 + R : Nat) : Int) from by rw [w64 (by omega) (by omega)]; push_cast; rfl, e, w64 (x := ((t * (5 + R) : Nat) : Int)) (by omega) (by omega), w64 (by omega) (by omega)]
  congr 1
theorem m_tail (x y z : Int) : windrowref06_Map_Tail.f P T R x y z t = some ((16 + t * (5 + R) + 4 : Nat) : Int) := by
  have hm := Lay.mul_le' (show t ≤ T by omega) hr.2.2.2.1 hr.2.2.2.2.2
  unfold windrowref06_Map_Tail.f
  rw [m_stat hr ht, Option.bind_some, w64 (by omega) (by omega)]; congr 1
theorem m_head (x y z : Int) : windrowref06_Map_Head.f P T R x y z t = some ((16 + t * (5 + R) + 3 : Nat) : Int) := by
  have hm := Lay.mul_le' (show t ≤ T by omega) hr.2.2.2.1 hr.2.2.2.2.2
  unfold windrowref06_Map_Head.f
  rw [m_stat hr ht, Option.bind_some, w64 (by omega) (by omega)]; congr 1
theorem m_slot (x y z : Int) {n : Int} (h0 : 0 ≤ n) : windrowref06_Map_Slot.f P T R x y z t n = some ((16 + t * (5 + R) + 5 + (n % (R : Int)).toNat : Nat) : Int) := by
  have hm := Lay.mul_le' (show t ≤ T by omega) hr.2.2.2.1 hr.2.2.2.2.2
  have hR := hr.2.2.2.2.1
  have hR2 := hr.2.2.2.2.2
  have h1 := Int.emod_nonneg n (show (R : Int) ≠ 0 by omega)
  have h2 := Int.emod_lt_of_pos n (show (0 : Int) < R by omega)
  unfold windrowref06_Map_Slot.f
  rw [m_stat hr ht, Option.bind_some, u64i (by omega) (by omega), if_neg (by omega), Lay.tm h0, w64 (x := n % (R : Int)) (by omega) (by omega), w64 (x := ((16 + t * (5 + R) : Nat) : Int) + 5) (by omega) (by omega), w64 (by omega) (by omega)]
  congr 1
  omega

/-! ### the chapter's push, answer by answer: i answers were taken before it -/
variable (x y z v : Int)
theorem push0 (hl : H.length = i) : windrowref07_Push.f H i n1 n2 n3 n4 n5 n6 n7 false P T R x y z t v = some (false, false, (i : Int), 0, 1, ((16 + t * (5 + R) + 4 : Nat) : Int), 0, 0, 0, 0, true) := by
  unfold windrowref07_Push.f
  rw [m_tail hr ht, Option.bind_some, load_miss hl, Option.bind_some, m_head hr ht, Option.bind_some, load_stop, Option.bind_some]
  exact if_pos rfl
theorem push1 (hl : H.length = i + 1) (h100 : i ≤ 50) : windrowref07_Push.f H i n1 n2 n3 n4 n5 n6 n7 false P T R x y z t v = some (false, false, ((i + 1 : Nat) : Int), 0, 1, ((16 + t * (5 + R) + 3 : Nat) : Int), 0, 0, 0, 0, true) := by
  unfold windrowref07_Push.f
  rw [m_tail hr ht, Option.bind_some, load_hit (by omega) (by omega), Option.bind_some, m_head hr ht, Option.bind_some, load_miss hl, Option.bind_some]
  exact if_pos rfl
theorem push2full (hl : i + 2 ≤ H.length) (h100 : H.length ≤ 60) (hf : IntKind.u64.wrap (R : Int) ≤ IntKind.u64.wrap (H.getD i 0 - H.getD (i + 1) 0)) : windrowref07_Push.f H i n1 n2 n3 n4 n5 n6 n7 false P T R x y z t v = some (true, true, ((i + 2 : Nat) : Int), n1, n2, n3, n4, n5, n6, n7, false) := by
  unfold windrowref07_Push.f
  rw [m_tail hr ht, Option.bind_some, load_hit (by omega) (by omega), Option.bind_some, m_head hr ht, Option.bind_some, load_hit (i := i + 1) (by omega) (by omega), Option.bind_some]
  exact (if_neg (by simp)).trans (if_pos hf)
theorem push2 (hl : H.length = i + 2) (h100 : i ≤ 50) (h0 : 0 ≤ H.getD i 0) (hf : ¬ IntKind.u64.wrap (R : Int) ≤ IntKind.u64.wrap (H.getD i 0 - H.getD (i + 1) 0)) : windrowref07_Push.f H i n1 n2 n3 n4 n5 n6 n7 false P T R x y z t v = some (false, false, ((i + 2 : Nat) : Int), 0, 2, ((16 + t * (5 + R) + 5 + (H.getD i 0 % (R : Int)).toNat : Nat) : Int), 0, v, 0, 0, true) := by
  unfold windrowref07_Push.f
  rw [m_tail hr ht, Option.bind_some, load_hit (by omega) (by omega), Option.bind_some, m_head hr ht, Option.bind_some, load_hit (i := i + 1) (by omega) (by omega), Option.bind_some]
  refine (if_neg (by simp)).trans ((if_neg hf).trans ?_)
  simp only
  rw [m_slot hr ht x y z h0, Option.bind_some, stor_miss (i := i + 2) hl, Option.bind_some]
  simp only [m_tail hr ht, Option.bind_some, stor_stop]
  rfl
theorem push3 (hl : H.length = i + 3) (h100 : i ≤ 50) (h0 : 0 ≤ H.getD i 0) (hf : ¬ IntKind.u64.wrap (R : Int) ≤ IntKind.u64.wrap (H.getD i 0 - H.getD (i + 1) 0)) : windrowref07_Push.f H i n1 n2 n3 n4 n5 n6 n7 false P T R x y z t v = some (false, false, ((i + 3 : Nat) : Int), 0, 2, ((16 + t * (5 + R) + 4 : Nat) : Int), 0, IntKind.u64.wrap (H.getD i 0 + 1), 0, 0, true) := by
  unfold windrowref07_Push.f
  rw [m_tail hr ht, Option.bind_some, load_hit (by omega) (by omega), Option.bind_some, m_head hr ht, Option.bind_some, load_hit (i := i + 1) (by omega) (by omega), Option.bind_some]
  refine (if_neg (by simp)).trans ((if_neg hf).trans ?_)
  simp only
  rw [m_slot hr ht x y z h0, Option.bind_some, stor_hit (i := i + 2) (by omega) (by omega), Option.bind_some]
  simp only [m_tail hr ht, Option.bind_some]
  rw [stor_miss (i := i + 3) hl]
  rfl
theorem push4 (hl : H.length = i + 4) (h100 : i ≤ 50) (h0 : 0 ≤ H.getD i 0) (hf : ¬ IntKind.u64.wrap (R : Int) ≤ IntKind.u64.wrap (H.getD i 0 - H.getD (i + 1) 0)) : windrowref07_Push.f H i n1 n2 n3 n4 n5 n6 n7 false P T R x y z t v = some (true, false, ((i + 4 : Nat) : Int), n1, n2, n3, n4, n5, n6, n7, false) := by
  unfold windrowref07_Push.f
  rw [m_tail hr ht, Option.bind_some, load_hit (by omega) (by omega), Option.bind_some, m_head hr ht, Option.bind_some, load_hit (i := i + 1) (by omega) (by omega), Option.bind_some]
  refine (if_neg (by simp)).trans ((if_neg hf).trans ?_)
  simp only
  rw [m_slot hr ht x y z h0, Option.bind_some, stor_hit (i := i + 2) (by omega) (by omega), Option.bind_some]
  simp only [m_tail hr ht, Option.bind_some]
  rw [stor_hit (i := i + 3) (by omega) (by omega)]
  rfl
end
end Go.Proofs.Ytcnledehnefldaa.Dd
/- Words of 64 bits, as whole numbers: their bits. -/
namespace Go.Proofs.Ytcnledehnefldaa.Wd
open Go Go.Proofs.YtcnledehnefldaaW.PrintWords Go.Proofs.YtcnledehnefldaaW.PrintLast Go.Proofs.YtcnledehnefldaaW.PrintMore Go.Proofs.Ytcnledehnefldaa.Eo
set_option linter.unusedVariables false
set_option linter.unusedSimpArgs false

/-- A word. -/
def W (x : Int) : Prop := 0 ≤ x ∧ x < 18446744073709551616

/-- A bit of it. -/
def tb (x : Int) (i : Nat) : Bool := x.toNat.testBit i

theorem ofInt_toNat {a : Nat} (ha : a < 2 ^ 64) : (BitVec.ofInt 64 (a : Int)).toNat = a := by
  rw [BitVec.ofInt_natCast, BitVec.toNat_ofNat]; exact Nat.mod_eq_of_lt ha

theorem and_nat {a b : Nat} (ha : a < 2 ^ 64) (hb : b < 2 ^ 64) : bits .and .u64 (a : Int) (b : Int) = ((a &&& b : Nat) : Int) := by
  have hx : a &&& b < 2 ^ 64 := Nat.and_lt_two_pow _ hb
  show IntKind.u64.wrap ((BitVec.ofInt 64 (a : Int) &&& BitVec.ofInt 64 (b : Int)).toNat : Int) = _
  rw [BitVec.toNat_and, ofInt_toNat ha, ofInt_toNat hb, IntKind.wrap_u64]
  omega
theorem or_nat {a b : Nat} (ha : a < 2 ^ 64) (hb : b < 2 ^ 64) : bits .or .u64 (a : Int) (b : Int) = ((a ||| b : Nat) : Int) := by
  have hx : a ||| b < 2 ^ 64 := Nat.or_lt_two_pow ha hb
  show IntKind.u64.wrap ((BitVec.ofInt 64 (a : Int) ||| BitVec.ofInt 64 (b : Int)).toNat : Int) = _
  rw [BitVec.toNat_or, ofInt_toNat ha, ofInt_toNat hb, IntKind.wrap_u64]
  omega
end Go.Proofs.Ytcnledehnefldaa.Wd
/- The chapter's shade, told from its answers, against the program's machine: the same next access, the same end. -/
namespace Go.Proofs.Ytcnledehnefldaa.Dd
open Go Go.RowKit Go.Proofs.Ytcnledehnefldaa.Hp Go.Proofs.Ytcnledehnefldaa.PH Go.Proofs.Ytcnledehnefldaa.Ar Go.Proofs.Ytcnledehnefldaa.Eo
open Go.Proofs.YtcnledehnefldaaW.PrintLast (i64_w)
set_option linter.unusedVariables false
set_option linter.unusedSimpArgs false
set_option linter.unusedSectionVars false

theorem power_eq {b : Nat} (hb : b < 64) : windrowref01_Power.f 100 (b : Int) = some (2 ^ b) :=
  (by decide +kernel : ∀ b : Fin 64, windrowref01_Power.f 100 ((b.1 : Nat) : Int) = some (2 ^ b.1)) ⟨b, hb⟩
theorem bitOf_eq {b : Nat} (hb : b < 64) : bitOf (b : Int) = 2 ^ b := (by decide +kernel : ∀ b : Fin 64, bitOf ((b.1 : Nat) : Int) = 2 ^ b.1) ⟨b, hb⟩
theorem bit_eq {b : Nat} (hb : b < 64) {o : Int} (ho : 0 ≤ o ∧ o < 18446744073709551616) : ∃ r, windrowref01_Bit.f 100 o (b : Int) = some r ∧ (r == 0) = bitIn o (b : Int) := by
  obtain ⟨p1, p2⟩ := pow_lt hb
  have p0 : (0 : Int) < 2 ^ b := Int.pow_pos (by decide)
  obtain ⟨n, rfl⟩ := Int.eq_ofNat_of_zero_le ho.1
  have hdiv0 : 0 ≤ (n : Int) / 2 ^ b := Int.ediv_nonneg (by omega) (by omega)
  have hdiv1 : (n : Int) / 2 ^ b ≤ (n : Int) := Int.ediv_le_self _ (by omega)
  obtain ⟨m, hm⟩ := Int.eq_ofNat_of_zero_le hdiv0
  have hm64 : m < 2 ^ 64 := by omega
  refine ⟨(n : Int) / 2 ^ b % 2, ?_, ?_⟩
  · unfold windrowref01_Bit.f
    rw [power_eq hb, Option.bind_some, if_neg (by omega), Lay.td (by omega), u64i (by omega) (by omega), Lay.tm hdiv0]
  · show _ = (Go.bits .and .u64 ((n : Int) / 2 ^ min ((b : Nat) : Int).toNat 64) 1 == 0)
    rw [Int.toNat_natCast, Nat.min_eq_left (by omega), hm]
    have e : Go.bits .and .u64 (m : Int) 1 = ((m &&& 1 : Nat) : Int) := Wd.and_nat hm64 (by decide)
    rw [e, Nat.and_one_is_mod]
    rfl
section
variable {P T R pg b t : Nat} {ref : Int} (hr : Lay.right P T R) (hpg : pg < P) (hb : b < 64) (href : ref = ((Lay.bs P T R + 64 * pg + b : Nat) : Int)) (ht : t < T)
include hr hpg hb href
theorem m_heap : windrowref06_Map_Heap.f P T R (Lay.bs P T R : Nat) (Lay.tb T R : Nat) (Lay.cl P T R : Nat) (wrap64 ref) = some ((pg : Int), (b : Int)) := by
  have hc := Lay.cl_le hr
  have hcb : Lay.cl P T R = Lay.bs P T R + 64 * P := rfl
  subst href
  unfold windrowref06_Map_Heap.f
  rw [w64 (by omega) (by omega), if_neg (by omega), if_neg (by omega), if_neg (by omega), w64 (x := _ - _) (by omega) (by omega), Lay.td (by omega), Lay.tm (by omega), w64 (by omega) (by omega)]
  congr 1
  rw [Prod.mk.injEq]; omega
omit href in
theorem m_mark (x y : Int) : windrowref06_Map_Mark.f P T R x (Lay.tb T R : Nat) y pg = some ((Lay.tb T R + 2 * P + pg : Nat) : Int) := by
  have hbs := Lay.bs_ge P T R
  have hc := Lay.cl_le hr
  have hcb : Lay.cl P T R = Lay.bs P T R + 64 * P := rfl
  unfold windrowref06_Map_Mark.f
  rw [w64 (x := 2 * (P : Int)) (by omega) (by omega), w64 (x := _ + 2 * (P : Int)) (by omega) (by omega), w64 (by omega) (by omega)]
  congr 1
theorem ref_ne : ref ≠ 0 := by
  have hbs := Lay.bs_ge P T R
  have h16 : 16 ≤ Lay.tb T R := by unfold Lay.tb; omega
  omega
theorem mark0 (n1 n2 n3 n4 n5 n6 n7 : Int) : windrowref08_Mark.f 100 [] 0 n1 n2 n3 n4 n5 n6 n7 false P T R (Lay.bs P T R : Nat) (Lay.tb T R : Nat) (Lay.cl P T R : Nat) ref = some (false, false, 0, 0, 5, ((Lay.tb T R + 2 * P + pg : Nat) : Int), 0, bitOf (b : Int), 0, 0, true) := by
  unfold windrowref08_Mark.f
  rw [if_neg (ref_ne hr hpg hb href), m_heap hr hpg hb href, Option.bind_some]
  simp only
  rw [m_mark hr hpg hb, Option.bind_some, power_eq hb, Option.bind_some]
  unfold windrowref03_Tape_Or.f
  rw [show ((0 : Int)) = ((0 : Nat) : Int) from rfl, ask_miss (H := []) (i := 0) rfl, Option.bind_some, bitOf_eq hb]
  rfl
theorem mark1 {o : Int} (ho : 0 ≤ o ∧ o < 18446744073709551616) (K : List Int) (hK : K.length ≤ 20) (n1 n2 n3 n4 n5 n6 n7 : Int) : windrowref08_Mark.f 100 (o :: K) 0 n1 n2 n3 n4 n5 n6 n7 false P T R (Lay.bs P T R : Nat) (Lay.tb T R : Nat) (Lay.cl P T R : Nat) ref = some (true, bitIn o (b : Int), 1, n1, n2, n3, n4, n5, n6, n7, false) := by
  obtain ⟨r, e1, e2⟩ := bit_eq hb ho
  unfold windrowref08_Mark.f
  rw [if_neg (ref_ne hr hpg hb href), m_heap hr hpg hb href, Option.bind_some]
  simp only
  rw [m_mark hr hpg hb, Option.bind_some, power_eq hb, Option.bind_some]
  unfold windrowref03_Tape_Or.f
  have ea : windrowref03_Tape_Ask.f (o :: K) 0 n1 n2 n3 n4 n5 n6 n7 false 5 ((Lay.tb T R + 2 * P + pg : Nat) : Int) 0 (2 ^ b) = some (o, 1, n1, n2, n3, n4, n5, n6, n7, false) := ask_hit (H := o :: K) (i := 0) (by simp) (by simp; omega) 5 _ 0 _
  rw [ea, Option.bind_some, Option.bind_some]
  refine (if_neg (by simp)).trans ?_
  show (windrowref01_Bit.f 100 o (b : Int)).bind _ = _
  rw [e1, Option.bind_some, e2]
end
/-- What the machine's next access is. -/
def nxt (L : Pl) (x : SS) : Int × Int × Int × Int :=
  if x.at_ = 0 then (5, L.q, 0, bitOf L.b) else if x.at_ = 1 then (if x.pat = 0 then (1, L.qT, 0, 0) else if x.pat = 1 then (1, L.qH, 0, 0) else if x.pat = 2 then (2, L.qS x.tl, 0, x.ref) else (2, L.qT, 0, IntKind.u64.wrap (x.tl + 1))) else (2, 4, 0, 1)
def isFull (R : Nat) (x : SS) : Prop := IntKind.u64.wrap (R : Int) ≤ IntKind.u64.wrap (x.tl - x.hd)
/-- The answers behind the mark's. -/
def TRp (R : Nat) (x : SS) (K : List Int) : Prop :=
  (x.at_ = 1 ∧ x.pat = 0 ∧ K = [] ∧ x.lost = false) ∨ (x.at_ = 1 ∧ x.pat = 1 ∧ K = [x.tl] ∧ x.lost = false) ∨ (x.at_ = 1 ∧ x.pat = 2 ∧ K = [x.tl, x.hd] ∧ ¬ isFull R x ∧ x.lost = false) ∨
  (x.at_ = 1 ∧ x.pat = 3 ∧ (∃ u, K = [x.tl, x.hd, u]) ∧ ¬ isFull R x ∧ x.lost = false) ∨ (x.at_ = 2 ∧ K = [x.tl, x.hd] ∧ isFull R x ∧ x.lost = false) ∨
  (x.at_ = 3 ∧ (∃ u v, K = [x.tl, x.hd, u, v]) ∧ ¬ isFull R x ∧ x.lost = false) ∨ (x.at_ = 3 ∧ (∃ u, K = [x.tl, x.hd, u]) ∧ isFull R x ∧ x.lost = true)
def TR (R b : Nat) (x : SS) (H : List Int) : Prop :=
  (x.at_ = 0 ∧ H = [] ∧ x.fresh = false ∧ x.lost = false) ∨ (x.at_ = 3 ∧ x.fresh = false ∧ x.lost = false ∧ ∃ o, H = [o] ∧ (0 ≤ o ∧ o < 18446744073709551616) ∧ bitIn o (b : Int) = false) ∨
  (x.fresh = true ∧ ∃ o K, H = o :: K ∧ (0 ≤ o ∧ o < 18446744073709551616) ∧ bitIn o (b : Int) = true ∧ TRp R x K)
theorem TR.len {R b : Nat} {x : SS} {H : List Int} (h : TR R b x H) : H.length ≤ 5 := by
  rcases h with ⟨_, rfl, _⟩ | ⟨_, _, _, o, rfl, _⟩ | ⟨_, o, K, rfl, _, _, h⟩
  · decide
  · simp
  · rcases h with ⟨_, _, rfl, _⟩ | ⟨_, _, rfl, _⟩ | ⟨_, _, rfl, _⟩ | ⟨_, _, ⟨u, rfl⟩, _⟩ | ⟨_, rfl, _⟩ | ⟨_, ⟨u, v, rfl⟩, _⟩ | ⟨_, ⟨u, rfl⟩, _⟩ <;> simp
section
variable {P T R pg b t : Nat} {ref : Int} (hr : Lay.right P T R) (hpg : pg < P) (hb : b < 64) (href : ref = ((Lay.bs P T R + 64 * pg + b : Nat) : Int)) (ht : t < T)
include hr hpg hb href ht
theorem shade_tells {x : SS} (hx : SOk P T R ref t x) {H : List Int} (h : TR R b x H) (n1 n2 n3 n4 n5 n6 n7 : Int) :
    ∃ (pos : Int) (n : Nx) (stop : Bool), windrowref08_Shade.f 100 H 0 n1 n2 n3 n4 n5 n6 n7 false P T R (Lay.bs P T R : Nat) (Lay.tb T R : Nat) (Lay.cl P T R : Nat) t ref = some (decide (x.at_ = 3), x.fresh, x.lost, pos, n.who, n.kind, n.at_, n.want, n.put, n.seen, n.left, stop) ∧
      (x.at_ ≠ 3 → (n.kind, n.at_, n.want, n.put) = nxt (onL P T R pg b t) x) := by
  rcases h with ⟨h0, rfl, hf, hlo⟩ | ⟨h3, hf, hlo, o, rfl, ho, hbit⟩ | ⟨hf, o, K, rfl, ho, hbit, h⟩
  · refine ⟨0, ⟨0, 5, ((Lay.tb T R + 2 * P + pg : Nat) : Int), 0, bitOf (b : Int), 0, 0⟩, true, ?_, fun _ => ?_⟩
    · unfold windrowref08_Shade.f
      rw [mark0 hr hpg hb href, Option.bind_some]
      refine (if_neg (by simp)).trans ?_
      show windrowref08_Shade.j0 (99 + 1) _ _ _ _ _ _ _ _ _ _ _ _ _ _ _ _ _ _ _ _ _ = _
      simp only [windrowref08_Shade.j0]
      refine (if_pos trivial).trans ?_
      rw [hf, hlo, h0]
      rfl
    · unfold nxt; rw [if_pos h0]; rfl
  · refine ⟨1, ⟨n1, n2, n3, n4, n5, n6, n7⟩, false, ?_, fun z => absurd h3 z⟩
    unfold windrowref08_Shade.f
    rw [mark1 hr hpg hb href ho [] (by simp), Option.bind_some, hbit]
    refine (if_pos rfl).trans ?_
    show windrowref08_Shade.j0 (99 + 1) _ _ _ _ _ _ _ _ _ _ _ _ _ _ _ _ _ _ _ _ _ = _
    simp only [windrowref08_Shade.j0]
    refine (if_pos (by first | trivial | rfl)).trans ?_
    rw [hf, hlo, h3]
    rfl
  · have key : ∀ (K : List Int), K.length ≤ 20 → windrowref08_Shade.f 100 (o :: K) 0 n1 n2 n3 n4 n5 n6 n7 false P T R (Lay.bs P T R : Nat) (Lay.tb T R : Nat) (Lay.cl P T R : Nat) t ref = windrowref08_Shade.j0 (99 + 1) t ref true true false (o :: K) ((1 : Nat) : Int) n1 n2 n3 n4 n5 n6 n7 false P T R (Lay.bs P T R : Nat) (Lay.tb T R : Nat) (Lay.cl P T R : Nat) := fun K hK => by
      unfold windrowref08_Shade.f
      rw [mark1 hr hpg hb href ho K hK, Option.bind_some, hbit]
      exact if_pos rfl
    have g0 : ∀ K : List Int, (o :: K).getD 1 0 = K.getD 0 0 := fun K => rfl
    have g1 : ∀ K : List Int, (o :: K).getD (1 + 1) 0 = K.getD 1 0 := fun K => rfl
    have htl := hx.tl.1
    rcases h with ⟨a1, a2, rfl, a3⟩ | ⟨a1, a2, rfl, a3⟩ | ⟨a1, a2, rfl, a4, a3⟩ | ⟨a1, a2, ⟨u, rfl⟩, a4, a3⟩ | ⟨a1, rfl, a4, a3⟩ | ⟨a1, ⟨u, v, rfl⟩, a4, a3⟩ | ⟨a1, ⟨u, rfl⟩, a4, a3⟩
    · refine ⟨1, ⟨0, 1, ((16 + t * (5 + R) + 4 : Nat) : Int), 0, 0, 0, 0⟩, true, ?_, fun _ => ?_⟩
      · rw [key _ (by simp)]
        simp only [windrowref08_Shade.j0]
        rw [if_neg (by simp), push0 hr ht _ _ _ _ (by simp), Option.bind_some, hf, a3, a1]
        rfl
      · unfold nxt; rw [if_neg (by omega), if_pos a1, if_pos a2]; rfl
    · refine ⟨2, ⟨0, 1, ((16 + t * (5 + R) + 3 : Nat) : Int), 0, 0, 0, 0⟩, true, ?_, fun _ => ?_⟩
      · rw [key _ (by simp)]
        simp only [windrowref08_Shade.j0]
        rw [if_neg (by simp), push1 hr ht _ _ _ _ (i := 1) (by simp) (by omega), Option.bind_some, hf, a3, a1]
        rfl
      · unfold nxt; rw [if_neg (by omega), if_pos a1, if_neg (by omega), if_pos a2]; rfl
    · refine ⟨3, ⟨0, 2, ((16 + t * (5 + R) + 5 + (x.tl % (R : Int)).toNat : Nat) : Int), 0, ref, 0, 0⟩, true, ?_, fun _ => ?_⟩
      · rw [key _ (by simp)]
        simp only [windrowref08_Shade.j0]
        rw [if_neg (by simp), push2 (H := [o, x.tl, x.hd]) (i := 1) hr ht _ _ _ _ (by simp) (by omega) htl a4, Option.bind_some, hf, a3, a1]
        rfl
      · unfold nxt; rw [if_neg (by omega), if_pos a1, if_neg (by omega), if_neg (by omega), if_pos a2, hx.er]; rfl
    · refine ⟨4, ⟨0, 2, ((16 + t * (5 + R) + 4 : Nat) : Int), 0, IntKind.u64.wrap (x.tl + 1), 0, 0⟩, true, ?_, fun _ => ?_⟩
      · rw [key _ (by simp)]
        simp only [windrowref08_Shade.j0]
        rw [if_neg (by simp), push3 (H := [o, x.tl, x.hd, u]) (i := 1) hr ht _ _ _ _ (by simp) (by omega) htl a4, Option.bind_some, hf, a3, a1]
        rfl
      · unfold nxt; rw [if_neg (by omega), if_pos a1, if_neg (by omega), if_neg (by omega), if_neg (by omega)]; rfl
    · refine ⟨3, ⟨0, 2, 4, 0, 1, 0, 0⟩, true, ?_, fun _ => ?_⟩
      · rw [key _ (by simp)]
        simp only [windrowref08_Shade.j0]
        rw [if_neg (by simp), push2full (H := [o, x.tl, x.hd]) (i := 1) hr ht _ _ _ _ (by simp) (by simp) a4, Option.bind_some]
        refine (if_pos rfl).trans ((if_pos rfl).trans ?_)
        simp only
        rw [stor_miss (H := [o, x.tl, x.hd]) (i := 3) rfl, Option.bind_some, hf, a3, a1]
        rfl
      · unfold nxt; rw [if_neg (by omega), if_neg (by omega)]
    · refine ⟨5, ⟨n1, n2, n3, n4, n5, n6, n7⟩, false, ?_, fun z => absurd a1 z⟩
      rw [key _ (by simp)]
      simp only [windrowref08_Shade.j0]
      rw [if_neg (by simp), push4 (H := [o, x.tl, x.hd, u, v]) (i := 1) hr ht _ _ _ _ (by simp) (by omega) htl a4, Option.bind_some, hf, a3, a1]
      rfl
    · refine ⟨4, ⟨n1, n2, n3, n4, n5, n6, n7⟩, false, ?_, fun z => absurd a1 z⟩
      rw [key _ (by simp)]
      simp only [windrowref08_Shade.j0]
      rw [if_neg (by simp), push2full (H := [o, x.tl, x.hd, u]) (i := 1) hr ht _ _ _ _ (by simp) (by simp) a4, Option.bind_some]
      refine (if_pos rfl).trans ((if_pos rfl).trans ?_)
      simp only
      rw [stor_hit (H := [o, x.tl, x.hd, u]) (i := 3) (by simp) (by simp), Option.bind_some, hf, a3, a1]
      rfl
end
end Go.Proofs.Ytcnledehnefldaa.Dd
/- A step of a shade, or of a mark, and the chapter's answer to it: they stay alike. -/
namespace Go.Proofs.Ytcnledehnefldaa.Dd
open Go Go.RowKit Go.Proofs.Ytcnledehnefldaa.Hp Go.Proofs.Ytcnledehnefldaa.PH Go.Proofs.Ytcnledehnefldaa.Ar Go.Proofs.Ytcnledehnefldaa.Eo
set_option linter.unusedVariables false
set_option linter.unusedSimpArgs false
set_option linter.unusedSectionVars false

/-- All cells are words. -/
def Cw (s : AS) : Prop := ∀ q, 0 ≤ s.cells.getD q 0 ∧ s.cells.getD q 0 < 18446744073709551616
theorem acc_range {s : AS} (h : Cw s) (g : Bool) (who kind at_ want put : Int) : 0 ≤ (s.acc g who kind at_ want put).2 ∧ (s.acc g who kind at_ want put).2 < 18446744073709551616 := by
  unfold AS.acc
  split
  · exact h _
  · exact ⟨Int.le_refl 0, (by show (0 : Int) < 18446744073709551616; decide)⟩
section
variable {P T R pg b t : Nat} {ref : Int}
theorem shade_ans {x : SS} (hx : SOk P T R ref t x) {H : List Int} (h : TR R b x H) (h3 : x.at_ ≠ 3) {s : AS} (hc : Cw s) (who : Int) :
    (shStep (onL P T R pg b t) who s x).1 = (s.acc true who (nxt (onL P T R pg b t) x).1 (nxt (onL P T R pg b t) x).2.1 (nxt (onL P T R pg b t) x).2.2.1 (nxt (onL P T R pg b t) x).2.2.2).1 ∧
    TR R b (shStep (onL P T R pg b t) who s x).2 (H ++ [(s.acc true who (nxt (onL P T R pg b t) x).1 (nxt (onL P T R pg b t) x).2.1 (nxt (onL P T R pg b t) x).2.2.1 (nxt (onL P T R pg b t) x).2.2.2).2]) := by
  obtain ⟨P0, T0, R0, t0, ref0, at_, lost, done, fresh, pat, hd, tl, full⟩ := x
  have eR : R0 = R := hx.eR
  have er : ref0 = ref := hx.er
  rcases h with ⟨h0, rfl, hf, hlo⟩ | ⟨h3', _⟩ | ⟨hf, o, K, rfl, ho, hbit, h⟩
  · simp only at h0 hf hlo
    subst h0 hf hlo
    have hr0 := acc_range hc true who 5 ((onL P T R pg b t).q) 0 (bitOf (b : Int))
    refine ⟨rfl, ?_⟩
    show TR R b ⟨P0, T0, R0, t0, ref0, if bitIn (s.acc true who 5 ((onL P T R pg b t).q) 0 (bitOf (b : Int))).2 (b : Int) = true then 1 else 3, false, true, bitIn (s.acc true who 5 ((onL P T R pg b t).q) 0 (bitOf (b : Int))).2 (b : Int), pat, hd, tl, full⟩ [(s.acc true who 5 ((onL P T R pg b t).q) 0 (bitOf (b : Int))).2]
    have hpat : pat = 0 := by
      have := hx.ok
      unfold SS.ok at this
      simp only at this
      omega
    subst hpat
    generalize (s.acc true who 5 ((onL P T R pg b t).q) 0 (bitOf (b : Int))).2 = o at hr0 ⊢
    cases hz : bitIn o (b : Int)
    · exact .inr (.inl ⟨rfl, rfl, rfl, o, rfl, hr0, hz⟩)
    · exact .inr (.inr ⟨rfl, o, [], rfl, hr0, hz, .inl ⟨rfl, rfl, rfl, rfl⟩⟩)
  · exact absurd h3' h3
  · simp only at hf h3
    subst hf
    rcases h with ⟨a1, a2, rfl, a3⟩ | ⟨a1, a2, rfl, a3⟩ | ⟨a1, a2, rfl, a4, a3⟩ | ⟨a1, a2, ⟨u, rfl⟩, a4, a3⟩ | ⟨a1, rfl, a4, a3⟩ | ⟨a1, ⟨u, v, rfl⟩, a4, a3⟩ | ⟨a1, ⟨u, rfl⟩, a4, a3⟩
    · simp only at a1 a2 a3
      subst a1 a2 a3
      exact ⟨rfl, .inr (.inr ⟨rfl, o, _, rfl, ho, hbit, .inr (.inl ⟨rfl, rfl, rfl, rfl⟩)⟩)⟩
    · simp only at a1 a2 a3
      subst a1 a2 a3
      have e : shStep (onL P T R pg b t) who s ⟨P0, T0, R0, t0, ref0, 1, false, done, true, 1, hd, tl, full⟩ = (if IntKind.u64.wrap R0 ≤ IntKind.u64.wrap (tl - (s.acc true who 1 (onL P T R pg b t).qH 0 0).2) then ((s.acc true who 1 (onL P T R pg b t).qH 0 0).1, ⟨P0, T0, R0, t0, ref0, 2, false, done, true, 4, (s.acc true who 1 (onL P T R pg b t).qH 0 0).2, tl, true⟩) else ((s.acc true who 1 (onL P T R pg b t).qH 0 0).1, ⟨P0, T0, R0, t0, ref0, 1, false, done, true, 2, (s.acc true who 1 (onL P T R pg b t).qH 0 0).2, tl, full⟩)) := rfl
      rw [e]
      by_cases hz : IntKind.u64.wrap R0 ≤ IntKind.u64.wrap (tl - (s.acc true who 1 (onL P T R pg b t).qH 0 0).2)
      · rw [if_pos hz]
        refine ⟨rfl, .inr (.inr ⟨rfl, o, _, rfl, ho, hbit, .inr (.inr (.inr (.inr (.inl ⟨rfl, rfl, ?_, rfl⟩))))⟩)⟩
        unfold isFull; rw [← eR]; exact hz
      · rw [if_neg hz]
        refine ⟨rfl, .inr (.inr ⟨rfl, o, _, rfl, ho, hbit, .inr (.inr (.inl ⟨rfl, rfl, rfl, ?_, rfl⟩))⟩)⟩
        unfold isFull; rw [← eR]; exact hz
    · simp only at a1 a2 a3
      subst a1 a2 a3
      exact ⟨rfl, .inr (.inr ⟨rfl, o, _, rfl, ho, hbit, .inr (.inr (.inr (.inl ⟨rfl, rfl, ⟨_, rfl⟩, a4, rfl⟩)))⟩)⟩
    · simp only at a1 a2 a3
      subst a1 a2 a3
      exact ⟨rfl, .inr (.inr ⟨rfl, o, _, rfl, ho, hbit, .inr (.inr (.inr (.inr (.inr (.inl ⟨rfl, ⟨_, _, rfl⟩, a4, rfl⟩)))))⟩)⟩
    · simp only at a1 a3
      subst a1 a3
      exact ⟨rfl, .inr (.inr ⟨rfl, o, _, rfl, ho, hbit, .inr (.inr (.inr (.inr (.inr (.inr ⟨rfl, ⟨_, rfl⟩, a4, rfl⟩)))))⟩)⟩
    · exact absurd a1 h3
    · exact absurd a1 h3
/-- A mark: what was answered; what it is. -/
def TM (b : Nat) (x : MS) (H : List Int) : Prop :=
  (x.done = false ∧ x.fresh = false ∧ H = []) ∨ (x.done = true ∧ ∃ o, H = [o] ∧ (0 ≤ o ∧ o < 18446744073709551616) ∧ x.fresh = bitIn o (b : Int))
theorem mark_tells (hr : Lay.right P T R) (hpg : pg < P) (hb : b < 64) (href : ref = ((Lay.bs P T R + 64 * pg + b : Nat) : Int)) {x : MS} {H : List Int} (h : TM b x H) (n1 n2 n3 n4 n5 n6 n7 : Int) :
    ∃ (pos : Int) (n : Nx) (stop : Bool), windrowref08_Mark.f 100 H 0 n1 n2 n3 n4 n5 n6 n7 false P T R (Lay.bs P T R : Nat) (Lay.tb T R : Nat) (Lay.cl P T R : Nat) ref = some (x.done, x.fresh, pos, n.who, n.kind, n.at_, n.want, n.put, n.seen, n.left, stop) ∧
      (x.done = false → (n.kind, n.at_, n.want, n.put) = (5, ((Lay.tb T R + 2 * P + pg : Nat) : Int), 0, bitOf (b : Int))) := by
  rcases h with ⟨h1, h2, rfl⟩ | ⟨h1, o, rfl, ho, hf⟩
  · refine ⟨0, ⟨0, 5, ((Lay.tb T R + 2 * P + pg : Nat) : Int), 0, bitOf (b : Int), 0, 0⟩, true, ?_, fun _ => rfl⟩
    rw [mark0 hr hpg hb href, h1, h2]
  · refine ⟨1, ⟨n1, n2, n3, n4, n5, n6, n7⟩, false, ?_, fun z => absurd (h1.symm.trans z) (by decide)⟩
    rw [mark1 hr hpg hb href ho [] (by simp), h1, hf]
end
end Go.Proofs.Ytcnledehnefldaa.Dd
/- What an access of a shade or mark leaves: the cells stay words, as many, no fault; a shade's state stays right. -/
namespace Go.Proofs.Ytcnledehnefldaa.Dd
open Go Go.RowKit Go.Proofs.Ytcnledehnefldaa.Hp Go.Proofs.Ytcnledehnefldaa.PH Go.Proofs.Ytcnledehnefldaa.Ar Go.Proofs.Ytcnledehnefldaa.Eo
set_option linter.unusedVariables false
set_option linter.unusedSimpArgs false
set_option linter.unusedSectionVars false

theorem or_range {x y : Int} (hx : 0 ≤ x ∧ x < 18446744073709551616) (hy : 0 ≤ y ∧ y < 18446744073709551616) : 0 ≤ Ar.leftOf 5 x 0 y ∧ Ar.leftOf 5 x 0 y < 18446744073709551616 := by
  obtain ⟨n, rfl⟩ := Int.eq_ofNat_of_zero_le hx.1
  obtain ⟨m, rfl⟩ := Int.eq_ofNat_of_zero_le hy.1
  have hn : n < 2 ^ 64 := by omega
  have hm : m < 2 ^ 64 := by omega
  have e : Ar.leftOf 5 (n : Int) 0 (m : Int) = ((n ||| m : Nat) : Int) := Wd.or_nat hn hm
  have h := Nat.or_lt_two_pow hn hm
  rw [e]
  omega
/-- What an arena keeps through the accesses. -/
structure ArOk (n : Nat) (s : AS) : Prop where
  cw : Cw s
  len : s.cells.length = n
  nf : s.faults = 0
  keep : s.keep = true
theorem acc_kept {n : Nat} {s : AS} (h : ArOk n s) {q : Nat} (hq : q < n) (who kind put : Int) (hk : kind = 1 ∨ kind = 2 ∨ kind = 5) (hp : 0 ≤ put ∧ put < 18446744073709551616) : ArOk n (s.acc true who kind q 0 put).1 ∧ (s.acc true who kind q 0 put).1.log.length ≤ s.log.length + 1 := by
  have hh : (true = true ∧ s.has (q : Int) = true) := ⟨rfl, decide_eq_true ⟨by omega, by rw [h.len]; omega⟩⟩
  obtain ⟨e1, e2⟩ := acc_yes (s := s) (who := who) (kind := kind) (put := put) (q := q) (by rw [h.len]; exact hq)
  refine ⟨⟨fun p => ?_, by rw [e2, List.length_set]; exact h.len, ?_, ?_⟩, acc_len2 s _ _ _ _ _ _⟩
  · rw [e2, getD_set]
    split
    · rcases hk with rfl | rfl | rfl
      · rw [left1]; exact h.cw q
      · rw [left2]; exact hp
      · exact or_range (h.cw q) hp
    · exact h.cw p
  · unfold AS.acc; rw [if_pos hh]; exact h.nf
  · unfold AS.acc; rw [if_pos hh]; exact h.keep
section
variable {P T R pg b t : Nat} {ref : Int}
theorem nxt_in (hr : Lay.right P T R) (hpg : pg < P) (hb : b < 64) (href : ref = ((Lay.bs P T R + 64 * pg + b : Nat) : Int)) (ht : t < T) {x : SS} (hx : SOk P T R ref t x) : ∃ q : Nat, (nxt (onL P T R pg b t) x).2.1 = q ∧ q < Lay.cl P T R ∧ (1 ≤ (nxt (onL P T R pg b t) x).1 ∧ ((nxt (onL P T R pg b t) x).1 = 1 ∨ (nxt (onL P T R pg b t) x).1 = 2 ∨ (nxt (onL P T R pg b t) x).1 = 5)) ∧ (nxt (onL P T R pg b t) x).2.2.1 = 0 ∧ (0 ≤ (nxt (onL P T R pg b t) x).2.2.2 ∧ (nxt (onL P T R pg b t) x).2.2.2 < 18446744073709551616) := by
  have hcl := Lay.cl_le hr
  have hbs := Lay.bs_ge P T R
  have hcb : Lay.cl P T R = Lay.bs P T R + 64 * P := rfl
  have hR := hr.2.2.2.2.1
  have q4 := q_lt (P := P) (b := b) hr hpg hb (j := 4) ht (by omega)
  have q3 := q_lt (P := P) (b := b) hr hpg hb (j := 3) ht (by omega)
  have hm0 := Int.emod_nonneg x.tl (show (R : Int) ≠ 0 by omega)
  have hm1 := Int.emod_lt_of_pos x.tl (show (0 : Int) < R by omega)
  have q5 := q_lt (P := P) (b := b) hr hpg hb (j := 5 + (x.tl % (R : Int)).toNat) ht (by omega)
  have h16 : 16 ≤ Lay.tb T R := by unfold Lay.tb; omega
  unfold nxt
  split
  · refine ⟨_, rfl, q4.2.1, ⟨(show (1:Int) ≤ 5 by decide), .inr (.inr rfl)⟩, rfl, ?_⟩
    show 0 ≤ bitOf (b : Int) ∧ bitOf (b : Int) < _
    rw [bitOf_eq hb]; exact pow_lt hb
  · split
    · split
      · exact ⟨_, rfl, by omega, ⟨(show (1:Int) ≤ 1 by decide), .inl rfl⟩, rfl, (show (0:Int) ≤ 0 ∧ (0:Int) < 18446744073709551616 by decide)⟩
      · split
        · exact ⟨_, rfl, by omega, ⟨(show (1:Int) ≤ 1 by decide), .inl rfl⟩, rfl, (show (0:Int) ≤ 0 ∧ (0:Int) < 18446744073709551616 by decide)⟩
        · split
          · refine ⟨_, rfl, by omega, ⟨(show (1:Int) ≤ 2 by decide), .inr (.inl rfl)⟩, rfl, ?_⟩
            show 0 ≤ x.ref ∧ x.ref < _
            rw [hx.er, href]; omega
          · exact ⟨_, rfl, by omega, ⟨(show (1:Int) ≤ 2 by decide), .inr (.inl rfl)⟩, rfl, wrap_range _⟩
    · exact ⟨4, rfl, by omega, ⟨(show (1:Int) ≤ 2 by decide), .inr (.inl rfl)⟩, rfl, (show (0:Int) ≤ 1 ∧ (1:Int) < 18446744073709551616 by decide)⟩
theorem sok_step {n : Nat} {x : SS} (hx : SOk P T R ref t x) (h3 : x.at_ ≠ 3) {s : AS} (hc : Cw s) (who : Int) : SOk P T R ref t (shStep (onL P T R pg b t) who s x).2 := by
  have same := shStep_same (onL P T R pg b t) who s x
  have okk := shStep_ok (onL P T R pg b t) who s hx.ok
  have base : ∀ y : SS, y = (shStep (onL P T R pg b t) who s x).2 → (y.fresh = true → y.done = true) → (y.at_ = 0 → y.done = false) → (y.at_ ≠ 0 → y.done = true) → (0 ≤ y.tl ∧ y.tl < 18446744073709551616) → SOk P T R ref t (shStep (onL P T R pg b t) who s x).2 := by
    rintro y rfl a1 a2 a3 a4
    exact ⟨same.1.trans hx.eP, same.2.1.trans hx.eT, same.2.2.1.trans hx.eR, same.2.2.2.1.trans hx.et, same.2.2.2.2.trans hx.er, okk, a1, a2, a3, a4⟩
  refine base _ rfl ?_ ?_ ?_ ?_ <;> unfold shStep shMark shPush <;> (repeat' split) <;>
    first | exact hx.fd | exact hx.tl | exact fun _ => rfl | exact acc_range hc _ _ _ _ _ _ | exact hx.d0 | exact hx.d1 | (intro z; simp only at z; first | omega | (split at z <;> omega)) | (intro z; exact hx.d1 (by omega)) | (intro z; simp only at z; exact absurd z (by decide))
end
end Go.Proofs.Ytcnledehnefldaa.Dd
