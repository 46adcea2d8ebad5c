/- What the chapter's push and pop ask next, told from their answers; what an access of theirs leaves of an arena. -/
import Derived.Test.YtdcikbhfoplkmaaTpe
import Derived.Test.YtdcikbhfoplkmaaLy
import Derived.Test.YtdcikbhfoplkmaaFin
namespace Go.Proofs.Ytdcikbhfoplkmaa.Dd
open Go Go.RowKit Go.Proofs.Ytdcikbhfoplkmaa.Hp Go.Proofs.Ytdcikbhfoplkmaa.PH Go.Proofs.Ytdcikbhfoplkmaa.Ar Go.Proofs.Ytdcikbhfoplkmaa.Eo
open Go.Proofs.YtdcikbhfoplkmaaW.PrintLast (i64_w)
open Go.Proofs.YtdcikbhfoplkmaaW.PrintWords (rd)
set_option linter.unusedVariables false
set_option linter.unusedSimpArgs false
set_option linter.unusedSectionVars false

section
variable {H : List Int} {i : Nat} {n1 n2 n3 n4 n5 n6 n7 : Int}
theorem ask_hit (hi : i < H.length) (hl : H.length ≤ 100) (kd at_ wt pt : Int) : windrowref03_Tape_Ask.f H i n1 n2 n3 n4 n5 n6 n7 false kd at_ wt pt = some (H.getD i 0, ((i + 1 : Nat) : Int), n1, n2, n3, n4, n5, n6, n7, false) := by
  unfold windrowref03_Tape_Ask.f
  have e1 : wrap64 ((i : Int) + 1) = ((i + 1 : Nat) : Int) := by rw [w64 (by omega) (by omega)]; push_cast; rfl
  have e2 : wrap64 (((i + 1 : Nat) : Int) - 1) = (i : Int) := by rw [w64 (by omega) (by omega)]; push_cast; omega
  rw [if_neg (by decide), if_pos (by omega), e1, e2, if_pos (by omega), if_pos (by omega)]
  unfold rd
  rw [Int.toNat_natCast]
theorem ask_miss (hl : H.length = i) (kd at_ wt pt : Int) : windrowref03_Tape_Ask.f H i n1 n2 n3 n4 n5 n6 n7 false kd at_ wt pt = some (0, (i : Int), 0, kd, at_, wt, pt, 0, 0, true) := by
  unfold windrowref03_Tape_Ask.f
  rw [if_neg (by decide), if_neg (by omega)]
theorem ask_stop (p : Int) (kd at_ wt pt : Int) : windrowref03_Tape_Ask.f H p n1 n2 n3 n4 n5 n6 n7 true kd at_ wt pt = some (0, p, n1, n2, n3, n4, n5, n6, n7, true) := by
  unfold windrowref03_Tape_Ask.f
  rw [if_pos rfl]
theorem load_hit (hi : i < H.length) (hl : H.length ≤ 100) (at_ : Int) : windrowref03_Tape_Load.f H i n1 n2 n3 n4 n5 n6 n7 false at_ = some (H.getD i 0, ((i + 1 : Nat) : Int), n1, n2, n3, n4, n5, n6, n7, false) := by
  unfold windrowref03_Tape_Load.f; rw [ask_hit hi hl]; rfl
theorem load_miss (hl : H.length = i) (at_ : Int) : windrowref03_Tape_Load.f H i n1 n2 n3 n4 n5 n6 n7 false at_ = some (0, (i : Int), 0, 1, at_, 0, 0, 0, 0, true) := by
  unfold windrowref03_Tape_Load.f; rw [ask_miss hl]; rfl
theorem load_stop (p at_ : Int) : windrowref03_Tape_Load.f H p n1 n2 n3 n4 n5 n6 n7 true at_ = some (0, p, n1, n2, n3, n4, n5, n6, n7, true) := by
  unfold windrowref03_Tape_Load.f; rw [ask_stop]; rfl
theorem stor_hit (hi : i < H.length) (hl : H.length ≤ 100) (at_ v : Int) : windrowref03_Tape_Store.f H i n1 n2 n3 n4 n5 n6 n7 false at_ v = some (((i + 1 : Nat) : Int), n1, n2, n3, n4, n5, n6, n7, false) := by
  unfold windrowref03_Tape_Store.f; rw [ask_hit hi hl]; rfl
theorem stor_miss (hl : H.length = i) (at_ v : Int) : windrowref03_Tape_Store.f H i n1 n2 n3 n4 n5 n6 n7 false at_ v = some ((i : Int), 0, 2, at_, 0, v, 0, 0, true) := by
  unfold windrowref03_Tape_Store.f; rw [ask_miss hl]; rfl
theorem stor_stop (p at_ v : Int) : windrowref03_Tape_Store.f H p n1 n2 n3 n4 n5 n6 n7 true at_ v = some (p, n1, n2, n3, n4, n5, n6, n7, true) := by
  unfold windrowref03_Tape_Store.f; rw [ask_stop]; rfl

/-! ### where the chapter's accesses go -/
variable {P T R t : Nat} (hr : Lay.right P T R) (ht : t < T)
include hr ht
theorem m_stat (x y z : Int) : windrowref06_Map_Status.f P T R x y z t = some ((16 + t * (5 + R) : Nat) : Int) := by
  have h6 := hr.2.2.2.1
  have hm := Lay.mul_le' (show t ≤ T by omega) h6 hr.2.2.2.2.2
  have hR := hr.2.2.2.2.2
  unfold windrowref06_Map_Status.f
  have e : (t : Int) * ((5 + R : Nat) : Int) = ((t * (5 + R) : Nat) : Int) := by push_cast; rfl
  rw [show wrap64 (5 + (R : Int)) = ((5 + R : Nat) : Int) from by rw [w64 (by omega) (by omega)]; push_cast; rfl, e, w64 (x := ((t * (5 + R) : Nat) : Int)) (by omega) (by omega), w64 (by omega) (by omega)]
  congr 1
theorem m_tail (x y z : Int) : windrowref06_Map_Tail.f P T R x y z t = some ((16 + t * (5 + R) + 4 : Nat) : Int) := by
  have hm := Lay.mul_le' (show t ≤ T by omega) hr.2.2.2.1 hr.2.2.2.2.2
  unfold windrowref06_Map_Tail.f
  rw [m_stat hr ht, Option.bind_some, w64 (by omega) (by omega)]; congr 1
theorem m_head (x y z : Int) : windrowref06_Map_Head.f P T R x y z t = some ((16 + t * (5 + R) + 3 : Nat) : Int) := by
  have hm := Lay.mul_le' (show t ≤ T by omega) hr.2.2.2.1 hr.2.2.2.2.2
  unfold windrowref06_Map_Head.f
  rw [m_stat hr ht, Option.bind_some, w64 (by omega) (by omega)]; congr 1
theorem m_slot (x y z : Int) {n : Int} (h0 : 0 ≤ n) : windrowref06_Map_Slot.f P T R x y z t n = some ((16 + t * (5 + R) + 5 + (n % (R : Int)).toNat : Nat) : Int) := by
  have hm := Lay.mul_le' (show t ≤ T by omega) hr.2.2.2.1 hr.2.2.2.2.2
  have hR := hr.2.2.2.2.1
  have hR2 := hr.2.2.2.2.2
  have h1 := Int.emod_nonneg n (show (R : Int) ≠ 0 by omega)
  have h2 := Int.emod_lt_of_pos n (show (0 : Int) < R by omega)
  unfold windrowref06_Map_Slot.f
  rw [m_stat hr ht, Option.bind_some, u64i (by omega) (by omega), if_neg (by omega), Lay.tm h0, w64 (x := n % (R : Int)) (by omega) (by omega), w64 (x := ((16 + t * (5 + R) : Nat) : Int) + 5) (by omega) (by omega), w64 (by omega) (by omega)]
  congr 1
  omega

/-! ### the chapter's push, answer by answer: i answers were taken before it -/
variable (x y z v : Int)
theorem push0 (hl : H.length = i) : windrowref07_Push.f H i n1 n2 n3 n4 n5 n6 n7 false P T R x y z t v = some (false, false, (i : Int), 0, 1, ((16 + t * (5 + R) + 4 : Nat) : Int), 0, 0, 0, 0, true) := by
  unfold windrowref07_Push.f
  rw [m_tail hr ht, Option.bind_some, load_miss hl, Option.bind_some, m_head hr ht, Option.bind_some, load_stop, Option.bind_some]
  exact if_pos rfl
theorem push1 (hl : H.length = i + 1) (h100 : i ≤ 50) : windrowref07_Push.f H i n1 n2 n3 n4 n5 n6 n7 false P T R x y z t v = some (false, false, ((i + 1 : Nat) : Int), 0, 1, ((16 + t * (5 + R) + 3 : Nat) : Int), 0, 0, 0, 0, true) := by
  unfold windrowref07_Push.f
  rw [m_tail hr ht, Option.bind_some, load_hit (by omega) (by omega), Option.bind_some, m_head hr ht, Option.bind_some, load_miss hl, Option.bind_some]
  exact if_pos rfl
theorem push2full (hl : i + 2 ≤ H.length) (h100 : H.length ≤ 60) (hf : IntKind.u64.wrap (R : Int) ≤ IntKind.u64.wrap (H.getD i 0 - H.getD (i + 1) 0)) : windrowref07_Push.f H i n1 n2 n3 n4 n5 n6 n7 false P T R x y z t v = some (true, true, ((i + 2 : Nat) : Int), n1, n2, n3, n4, n5, n6, n7, false) := by
  unfold windrowref07_Push.f
  rw [m_tail hr ht, Option.bind_some, load_hit (by omega) (by omega), Option.bind_some, m_head hr ht, Option.bind_some, load_hit (i := i + 1) (by omega) (by omega), Option.bind_some]
  exact (if_neg (by simp)).trans (if_pos hf)
theorem push2 (hl : H.length = i + 2) (h100 : i ≤ 50) (h0 : 0 ≤ H.getD i 0) (hf : ¬ IntKind.u64.wrap (R : Int) ≤ IntKind.u64.wrap (H.getD i 0 - H.getD (i + 1) 0)) : windrowref07_Push.f H i n1 n2 n3 n4 n5 n6 n7 false P T R x y z t v = some (false, false, ((i + 2 : Nat) : Int), 0, 2, ((16 + t * (5 + R) + 5 + (H.getD i 0 % (R : Int)).toNat : Nat) : Int), 0, v, 0, 0, true) := by
  unfold windrowref07_Push.f
  rw [m_tail hr ht, Option.bind_some, load_hit (by omega) (by omega), Option.bind_some, m_head hr ht, Option.bind_some, load_hit (i := i + 1) (by omega) (by omega), Option.bind_some]
  refine (if_neg (by simp)).trans ((if_neg hf).trans ?_)
  simp only
  rw [m_slot hr ht x y z h0, Option.bind_some, stor_miss (i := i + 2) hl, Option.bind_some]
  simp only [m_tail hr ht, Option.bind_some, stor_stop]
  rfl
theorem push3 (hl : H.length = i + 3) (h100 : i ≤ 50) (h0 : 0 ≤ H.getD i 0) (hf : ¬ IntKind.u64.wrap (R : Int) ≤ IntKind.u64.wrap (H.getD i 0 - H.getD (i + 1) 0)) : windrowref07_Push.f H i n1 n2 n3 n4 n5 n6 n7 false P T R x y z t v = some (false, false, ((i + 3 : Nat) : Int), 0, 2, ((16 + t * (5 + R) + 4 : Nat) : Int), 0, IntKind.u64.wrap (H.getD i 0 + 1), 0, 0, true) := by
  unfold windrowref07_Push.f
  rw [m_tail hr ht, Option.bind_some, load_hit (by omega) (by omega), Option.bind_some, m_head hr ht, Option.bind_some, load_hit (i := i + 1) (by omega) (by omega), Option.bind_some]
  refine (if_neg (by simp)).trans ((if_neg hf).trans ?_)
  simp only
  rw [m_slot hr ht x y z h0, Option.bind_some, stor_hit (i := i + 2) (by omega) (by omega), Option.bind_some]
  simp only [m_tail hr ht, Option.bind_some]
  rw [stor_miss (i := i + 3) hl]
  rfl
theorem push4 (hl : H.length = i + 4) (h100 : i ≤ 50) (h0 : 0 ≤ H.getD i 0) (hf : ¬ IntKind.u64.wrap (R : Int) ≤ IntKind.u64.wrap (H.getD i 0 - H.getD (i + 1) 0)) : windrowref07_Push.f H i n1 n2 n3 n4 n5 n6 n7 false P T R x y z t v = some (true, false, ((i + 4 : Nat) : Int), n1, n2, n3, n4, n5, n6, n7, false) := by
  unfold windrowref07_Push.f
  rw [m_tail hr ht, Option.bind_some, load_hit (by omega) (by omega), Option.bind_some, m_head hr ht, Option.bind_some, load_hit (i := i + 1) (by omega) (by omega), Option.bind_some]
  refine (if_neg (by simp)).trans ((if_neg hf).trans ?_)
  simp only
  rw [m_slot hr ht x y z h0, Option.bind_some, stor_hit (i := i + 2) (by omega) (by omega), Option.bind_some]
  simp only [m_tail hr ht, Option.bind_some]
  rw [stor_hit (i := i + 3) (by omega) (by omega)]
  rfl

/-! ### the chapter's pop -/
theorem pop0 (hl : H.length = i) : windrowref07_Pop.f H i n1 n2 n3 n4 n5 n6 n7 false P T R x y z t = some (false, false, 0, (i : Int), 0, 1, ((16 + t * (5 + R) + 3 : Nat) : Int), 0, 0, 0, 0, true) := by
  unfold windrowref07_Pop.f
  rw [m_head hr ht, Option.bind_some, load_miss hl, Option.bind_some, m_tail hr ht, Option.bind_some, load_stop, Option.bind_some]
  exact if_pos rfl
theorem pop1 (hl : H.length = i + 1) (h100 : i ≤ 50) : windrowref07_Pop.f H i n1 n2 n3 n4 n5 n6 n7 false P T R x y z t = some (false, false, 0, ((i + 1 : Nat) : Int), 0, 1, ((16 + t * (5 + R) + 4 : Nat) : Int), 0, 0, 0, 0, true) := by
  unfold windrowref07_Pop.f
  rw [m_head hr ht, Option.bind_some, load_hit (by omega) (by omega), Option.bind_some, m_tail hr ht, Option.bind_some, load_miss hl, Option.bind_some]
  exact if_pos rfl
theorem pop2empty (hl : i + 2 ≤ H.length) (h100 : H.length ≤ 60) (hf : H.getD i 0 = H.getD (i + 1) 0) : windrowref07_Pop.f H i n1 n2 n3 n4 n5 n6 n7 false P T R x y z t = some (true, true, 0, ((i + 2 : Nat) : Int), n1, n2, n3, n4, n5, n6, n7, false) := by
  unfold windrowref07_Pop.f
  rw [m_head hr ht, Option.bind_some, load_hit (by omega) (by omega), Option.bind_some, m_tail hr ht, Option.bind_some, load_hit (i := i + 1) (by omega) (by omega), Option.bind_some]
  exact (if_neg (by simp)).trans (if_pos hf)
theorem pop2 (hl : H.length = i + 2) (h100 : i ≤ 50) (h0 : 0 ≤ H.getD i 0) (hf : ¬ H.getD i 0 = H.getD (i + 1) 0) : windrowref07_Pop.f H i n1 n2 n3 n4 n5 n6 n7 false P T R x y z t = some (false, false, 0, ((i + 2 : Nat) : Int), 0, 1, ((16 + t * (5 + R) + 5 + (H.getD i 0 % (R : Int)).toNat : Nat) : Int), 0, 0, 0, 0, true) := by
  unfold windrowref07_Pop.f
  rw [m_head hr ht, Option.bind_some, load_hit (by omega) (by omega), Option.bind_some, m_tail hr ht, Option.bind_some, load_hit (i := i + 1) (by omega) (by omega), Option.bind_some]
  refine (if_neg (by simp)).trans ((if_neg hf).trans ?_)
  simp only
  rw [m_slot hr ht x y z h0, Option.bind_some, load_miss (i := i + 2) hl, Option.bind_some]
  simp only [m_head hr ht, Option.bind_some, stor_stop]
  rfl
theorem pop3 (hl : H.length = i + 3) (h100 : i ≤ 50) (h0 : 0 ≤ H.getD i 0) (hf : ¬ H.getD i 0 = H.getD (i + 1) 0) : windrowref07_Pop.f H i n1 n2 n3 n4 n5 n6 n7 false P T R x y z t = some (false, false, 0, ((i + 3 : Nat) : Int), 0, 2, ((16 + t * (5 + R) + 3 : Nat) : Int), 0, IntKind.u64.wrap (H.getD i 0 + 1), 0, 0, true) := by
  unfold windrowref07_Pop.f
  rw [m_head hr ht, Option.bind_some, load_hit (by omega) (by omega), Option.bind_some, m_tail hr ht, Option.bind_some, load_hit (i := i + 1) (by omega) (by omega), Option.bind_some]
  refine (if_neg (by simp)).trans ((if_neg hf).trans ?_)
  simp only
  rw [m_slot hr ht x y z h0, Option.bind_some, load_hit (i := i + 2) (by omega) (by omega), Option.bind_some]
  simp only [m_head hr ht, Option.bind_some]
  rw [stor_miss (i := i + 3) hl]
  rfl
theorem pop4 (hl : H.length = i + 4) (h100 : i ≤ 50) (h0 : 0 ≤ H.getD i 0) (hf : ¬ H.getD i 0 = H.getD (i + 1) 0) : windrowref07_Pop.f H i n1 n2 n3 n4 n5 n6 n7 false P T R x y z t = some (true, false, H.getD (i + 2) 0, ((i + 4 : Nat) : Int), n1, n2, n3, n4, n5, n6, n7, false) := by
  unfold windrowref07_Pop.f
  rw [m_head hr ht, Option.bind_some, load_hit (by omega) (by omega), Option.bind_some, m_tail hr ht, Option.bind_some, load_hit (i := i + 1) (by omega) (by omega), Option.bind_some]
  refine (if_neg (by simp)).trans ((if_neg hf).trans ?_)
  simp only
  rw [m_slot hr ht x y z h0, Option.bind_some, load_hit (i := i + 2) (by omega) (by omega), Option.bind_some]
  simp only [m_head hr ht, Option.bind_some]
  rw [stor_hit (i := i + 3) (by omega) (by omega)]
  rfl
end

/-! ### what an access leaves -/
/-- A granted access to a cell that is there. -/
theorem acc_yes {s : AS} {who kind put : Int} {q : Nat} (hq : q < s.cells.length) : (s.acc true who kind q 0 put).2 = s.cells.getD q 0 ∧ (s.acc true who kind q 0 put).1.cells = s.cells.set q (Ar.leftOf kind (s.cells.getD q 0) 0 put) := by
  have h : (true = true ∧ s.has (q : Int) = true) := ⟨rfl, decide_eq_true ⟨by omega, by omega⟩⟩
  unfold AS.acc
  rw [if_pos h]
  simp only [AS.done, Int.toNat_natCast, true_and]
theorem getD_set {l : List Int} {q p : Nat} {v : Int} : (l.set q v).getD p 0 = if p = q ∧ q < l.length then v else l.getD p 0 := by
  rw [List.getD_eq_getElem?_getD, List.getD_eq_getElem?_getD]
  by_cases e : p = q
  · subst e
    by_cases hl : p < l.length
    · rw [List.getElem?_set_self hl, if_pos ⟨rfl, hl⟩]; rfl
    · rw [if_neg (fun z => hl z.2), List.getElem?_eq_none (by rw [List.length_set]; omega), List.getElem?_eq_none (by omega)]
  · rw [if_neg (fun z => e z.1), List.getElem?_set_ne (fun z => e z.symm)]
theorem left1 (x y z : Int) : Ar.leftOf 1 x y z = x := rfl
theorem left2 (x y z : Int) : Ar.leftOf 2 x y z = z := rfl
theorem wrap_range (x : Int) : 0 ≤ IntKind.u64.wrap x ∧ IntKind.u64.wrap x < 18446744073709551616 := by rw [u64w]; omega
/-- All cells are words. -/
def Cw (s : AS) : Prop := ∀ q, 0 ≤ s.cells.getD q 0 ∧ s.cells.getD q 0 < 18446744073709551616
theorem acc_range {s : AS} (h : Cw s) (g : Bool) (who kind at_ want put : Int) : 0 ≤ (s.acc g who kind at_ want put).2 ∧ (s.acc g who kind at_ want put).2 < 18446744073709551616 := by
  unfold AS.acc
  split
  · exact h _
  · exact ⟨Int.le_refl 0, (by show (0 : Int) < 18446744073709551616; decide)⟩
/-- What an arena keeps through the accesses. -/
structure ArOk (n : Nat) (s : AS) : Prop where
  cw : Cw s
  len : s.cells.length = n
  nf : s.faults = 0
  keep : s.keep = true
theorem acc_kept {n : Nat} {s : AS} (h : ArOk n s) {q : Nat} (hq : q < n) (who kind put : Int) (hk : kind = 1 ∨ kind = 2) (hp : 0 ≤ put ∧ put < 18446744073709551616) : ArOk n (s.acc true who kind q 0 put).1 ∧ (s.acc true who kind q 0 put).1.log.length ≤ s.log.length + 1 := by
  have hh : (true = true ∧ s.has (q : Int) = true) := ⟨rfl, decide_eq_true ⟨by omega, by rw [h.len]; omega⟩⟩
  obtain ⟨e1, e2⟩ := acc_yes (s := s) (who := who) (kind := kind) (put := put) (q := q) (by rw [h.len]; exact hq)
  refine ⟨⟨fun p => ?_, by rw [e2, List.length_set]; exact h.len, ?_, ?_⟩, acc_len2 s _ _ _ _ _ _⟩
  · rw [e2, getD_set]
    split
    · rcases hk with rfl | rfl
      · rw [left1]; exact h.cw q
      · rw [left2]; exact hp
    · exact h.cw p
  · unfold AS.acc; rw [if_pos hh]; exact h.nf
  · unfold AS.acc; rw [if_pos hh]; exact h.keep
end Go.Proofs.Ytdcikbhfoplkmaa.Dd
