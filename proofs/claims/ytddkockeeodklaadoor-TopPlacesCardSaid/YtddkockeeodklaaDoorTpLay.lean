/- Where the plan of the program puts each cell, in plain numbers (turned from layer 6's texts to this seat). -/
import Derived.Test.YtddkockeeodklaaDoorEo
import Derived.Test.YtddkockeeodklaaDoorPAllx
namespace Go.Proofs.YtddkockeeodklaaDoor.Lay
open Go Go.RowKit Go.Proofs.YtddkockeeodklaaDoor.PAll Go.Proofs.YtddkockeeodklaaDoorW.PrintWords Go.Proofs.YtddkockeeodklaaDoorW.PrintLast
open Go.Proofs.YtddkockeeodklaaDoor.Eo
set_option linter.unusedVariables false
set_option linter.unusedSimpArgs false

def tb (T R : Nat) : Nat := 16 + T * (5 + R)

def bs (P T R : Nat) : Nat := (tb T R + 3 * P + 63) / 64 * 64

def cl (P T R : Nat) : Nat := bs P T R + 64 * P

def right (P T R : Nat) : Prop := 1 ≤ P ∧ P ≤ 32 ∧ 1 ≤ T ∧ T ≤ 6 ∧ 1 ≤ R ∧ R ≤ 16

theorem tb_le {P T R : Nat} (h : right P T R) : tb T R ≤ 142 := by
  obtain ⟨_, _, h3, h4, h5, h6⟩ := h
  unfold tb
  have : T * (5 + R) ≤ 6 * 21 := Nat.mul_le_mul h4 (by omega)
  omega

theorem bs_ge (P T R : Nat) : tb T R + 3 * P ≤ bs P T R ∧ bs P T R ≤ tb T R + 3 * P + 63 ∧ bs P T R % 64 = 0 := by
  unfold bs; omega

theorem cl_le {P T R : Nat} (h : right P T R) : cl P T R ≤ 2400 := by
  have h1 := tb_le h
  have h2 := bs_ge P T R
  have := h.2.1
  unfold cl
  omega

theorem td {a b : Int} (h : 0 ≤ a) : Int.tdiv a b = a / b := Int.tdiv_eq_ediv_of_nonneg h

theorem tm {a b : Int} (h : 0 ≤ a) : Int.tmod a b = a % b := Int.tmod_eq_emod_of_nonneg h

theorem mul_le' {t T R : Nat} (ht : t ≤ T) (hT : T ≤ 6) (hR : R ≤ 16) : t * (5 + R) ≤ 126 := by
  have : t * (5 + R) ≤ 6 * 21 := Nat.mul_le_mul (by omega) (by omega)
  omega

section
variable {P T R : Nat} (h : right P T R)
include h

theorem plan_right_true : layout_Plan_right.f P T R = some true := by
  obtain ⟨h1, h2, h3, h4, h5, h6⟩ := h
  unfold layout_Plan_right.f
  rw [if_pos (by omega), if_pos (by omega), if_pos (by omega), if_pos (by omega), if_pos (by omega)]
  simp; omega

theorem p_each : layout_Plan_each.f P T R = some (((5 + R : Nat)) : Int) := by
  obtain ⟨h1, h2, h3, h4, h5, h6⟩ := h
  unfold layout_Plan_each.f
  rw [w64 (by omega) (by omega)]; simp

theorem p_tables : layout_Plan_tables.f P T R = some ((tb T R : Nat) : Int) := by
  have he := p_each h
  obtain ⟨h1, h2, h3, h4, h5, h6⟩ := h
  have hm := mul_le' (Nat.le_refl T) h4 h6
  unfold layout_Plan_tables.f
  rw [he]
  simp only [Option.bind_some]
  have e : (T : Int) * ((5 + R : Nat) : Int) = ((T * (5 + R) : Nat) : Int) := by push_cast; rfl
  rw [e]
  simp (disch := omega) only [w64]
  unfold tb; simp

theorem p_base : layout_Plan_Base.f P T R = some ((bs P T R : Nat) : Int) := by
  have ht := p_tables h
  have hr := plan_right_true h
  have hl := tb_le h
  obtain ⟨h1, h2, h3, h4, h5, h6⟩ := h
  unfold layout_Plan_Base.f
  rw [hr]
  simp only [Option.bind_some, if_true]
  rw [ht]
  simp only [Option.bind_some]
  simp (disch := omega) only [w64, td]
  congr 1
  unfold bs; omega

theorem p_cells : layout_Plan_Cells.f P T R = some ((cl P T R : Nat) : Int) := by
  have hb := p_base h
  have hr := plan_right_true h
  have hl := cl_le h
  unfold cl at hl
  obtain ⟨h1, h2, h3, h4, h5, h6⟩ := h
  unfold layout_Plan_Cells.f
  rw [hr]
  simp only [Option.bind_some, if_true]
  rw [hb]
  simp only [Option.bind_some]
  simp (disch := omega) only [w64]
  congr 1
  unfold cl; omega

theorem p_of {i w : Int} (hw : 0 ≤ w) (hw2 : w ≤ 100) : layout_Plan_of.f P T R i w = some (if 0 ≤ i ∧ i < T then 16 + i * (5 + R) + w else -1) := by
  have hr := plan_right_true h
  have he := p_each h
  obtain ⟨h1, h2, h3, h4, h5, h6⟩ := h
  unfold layout_Plan_of.f
  rw [hr]
  simp only [Option.bind_some, if_true]
  by_cases hi : 0 ≤ i ∧ i < T
  · rw [if_neg (by omega), if_neg (by omega), he, if_pos hi]
    simp only [Option.bind_some]
    obtain ⟨t, rfl⟩ : ∃ t : Nat, i = t := ⟨i.toNat, by omega⟩
    have hm := mul_le' (show t ≤ T by omega) h4 h6
    have e : (t : Int) * ((5 + R : Nat) : Int) = ((t * (5 + R) : Nat) : Int) := by push_cast; rfl
    have e' : (t : Int) * (5 + (R : Int)) = ((t * (5 + R) : Nat) : Int) := by push_cast; rfl
    rw [e, e']
    simp (disch := omega) only [w64]
  · rw [if_neg hi]
    by_cases h0 : i < 0
    · rw [if_pos h0]
    · rw [if_neg h0, if_pos (by omega)]

theorem p_page {i : Int} {q : Nat} (hq : q ≤ 2) : layout_Plan_page.f P T R q i = some (if 0 ≤ i ∧ i < P then tb T R + q * P + i else -1) := by
  have hr := plan_right_true h
  have ht := p_tables h
  have hl := tb_le h
  obtain ⟨h1, h2, h3, h4, h5, h6⟩ := h
  unfold layout_Plan_page.f
  rw [hr]
  simp only [Option.bind_some, if_true]
  by_cases hi : 0 ≤ i ∧ i < P
  · rw [if_neg (by omega), if_neg (by omega), ht, if_pos hi]
    simp only [Option.bind_some]
    have hq3 : q = 0 ∨ q = 1 ∨ q = 2 := by omega
    have e : (q : Int) * P = ((q * P : Nat) : Int) := by push_cast; rfl
    have hm : q * P ≤ 64 := by rcases hq3 with rfl | rfl | rfl <;> omega
    rw [e]
    simp (disch := omega) only [w64]
  · rw [if_neg hi]
    by_cases h0 : i < 0
    · rw [if_pos h0]
    · rw [if_neg h0, if_pos (by omega)]

theorem p_status {i : Int} : layout_Plan_Status.f P T R i = some (if 0 ≤ i ∧ i < T then 16 + i * (5 + R) + 0 else -1) := by unfold layout_Plan_Status.f; rw [p_of h (by omega) (by omega)]; rfl

theorem p_ack {i : Int} : layout_Plan_Ack.f P T R i = some (if 0 ≤ i ∧ i < T then 16 + i * (5 + R) + 1 else -1) := by unfold layout_Plan_Ack.f; rw [p_of h (by omega) (by omega)]; rfl

theorem p_result {i : Int} : layout_Plan_Result.f P T R i = some (if 0 ≤ i ∧ i < T then 16 + i * (5 + R) + 2 else -1) := by unfold layout_Plan_Result.f; rw [p_of h (by omega) (by omega)]; rfl

theorem p_head {i : Int} : layout_Plan_Head.f P T R i = some (if 0 ≤ i ∧ i < T then 16 + i * (5 + R) + 3 else -1) := by unfold layout_Plan_Head.f; rw [p_of h (by omega) (by omega)]; rfl

theorem p_tail {i : Int} : layout_Plan_Tail.f P T R i = some (if 0 ≤ i ∧ i < T then 16 + i * (5 + R) + 4 else -1) := by unfold layout_Plan_Tail.f; rw [p_of h (by omega) (by omega)]; rfl

theorem p_entry {i : Int} : layout_Plan_Entry.f P T R i = some (if 0 ≤ i ∧ i < P then tb T R + i else -1) := by
  unfold layout_Plan_Entry.f
  have := p_page h (i := i) (q := 0) (by omega)
  rw [show ((0 : Nat) : Int) = 0 from rfl] at this
  rw [this]; simp

theorem p_alloc {i : Int} : layout_Plan_Alloc.f P T R i = some (if 0 ≤ i ∧ i < P then tb T R + P + i else -1) := by
  unfold layout_Plan_Alloc.f
  have := p_page h (i := i) (q := 1) (by omega)
  rw [show ((1 : Nat) : Int) = 1 from rfl] at this
  rw [this]; simp

theorem p_mark {i : Int} : layout_Plan_Mark.f P T R i = some (if 0 ≤ i ∧ i < P then tb T R + 2 * P + i else -1) := by
  unfold layout_Plan_Mark.f
  have := p_page h (i := i) (q := 2) (by omega)
  rw [show ((2 : Nat) : Int) = 2 from rfl] at this
  rw [this]; simp

theorem p_slot {i n : Int} (h0 : 0 ≤ n) (hn : n ≤ 18446744073709551615) : layout_Plan_Slot.f P T R i n = some (if 0 ≤ i ∧ i < T then 16 + i * (5 + R) + 5 + n % R else -1) := by
  unfold layout_Plan_Slot.f
  rw [p_of h (by omega) (by omega)]
  obtain ⟨h1, h2, h3, h4, h5, h6⟩ := h
  simp only [Option.bind_some]
  by_cases hi : 0 ≤ i ∧ i < T
  · rw [if_pos hi, if_pos hi]
    obtain ⟨t, rfl⟩ : ∃ t : Nat, i = t := ⟨i.toNat, by omega⟩
    have hm := mul_le' (show t ≤ T by omega) h4 h6
    have e' : (t : Int) * (5 + (R : Int)) = ((t * (5 + R) : Nat) : Int) := by push_cast; rfl
    have hb := Int.emod_lt_of_pos n (show (0 : Int) < R by omega)
    have hb0 := Int.emod_nonneg n (show (R : Int) ≠ 0 by omega)
    rw [e', if_neg (by omega), u64i (by omega) (by omega), if_neg (by omega), tm h0]
    simp (disch := omega) only [w64]
  · rw [if_neg hi, if_neg hi, if_pos (by omega)]

theorem p_addr {i j : Int} : layout_Plan_Addr.f P T R i j = some (if 0 ≤ i ∧ i < P ∧ 0 ≤ j ∧ j < 64 then bs P T R + i * 64 + j else -1) := by
  have hr := plan_right_true h
  have hb := p_base h
  have hl := cl_le h
  unfold cl at hl
  obtain ⟨h1, h2, h3, h4, h5, h6⟩ := h
  unfold layout_Plan_Addr.f
  rw [hr]
  simp only [Option.bind_some, if_true]
  by_cases hi : 0 ≤ i ∧ i < P ∧ 0 ≤ j ∧ j < 64
  · rw [if_neg (by omega), if_neg (by omega), if_neg (by omega), if_neg (by omega), hb, if_pos hi]
    simp only [Option.bind_some]
    simp (disch := omega) only [w64]
  · rw [if_neg hi]
    by_cases c1 : i < 0
    · rw [if_pos c1]
    · rw [if_neg c1]
      by_cases c2 : i ≥ P
      · rw [if_pos c2]
      · rw [if_neg c2]
        by_cases c3 : j < 0
        · rw [if_pos c3]
        · rw [if_neg c3, if_pos (by omega)]

end

theorem p_place {P T R : Nat} (h : right P T R) {i : Int} (h0 : -9223372036854775808 ≤ i ∧ i ≤ 9223372036854775807) :
    layout_Plan_Place.f P T R i = some (if (bs P T R : Int) ≤ i ∧ i < cl P T R then ((i - bs P T R) / 64, (i - bs P T R) % 64) else (-1, -1)) := by
  have hr := plan_right_true h
  have hb := p_base h
  have hc := p_cells h
  have hl := cl_le h
  have hcl : cl P T R = bs P T R + 64 * P := rfl
  unfold layout_Plan_Place.f
  rw [hr]
  simp only [Option.bind_some, if_true, hb, hc]
  by_cases c1 : i < bs P T R
  · rw [if_pos c1, if_neg (by omega)]
  · rw [if_neg c1]
    by_cases c2 : i ≥ cl P T R
    · rw [if_pos c2, if_neg (by omega)]
    · rw [if_neg c2, if_pos (by omega), w64 (x := i - _) (by omega) (by omega), td (by omega), tm (by omega), w64 (by omega) (by omega)]

theorem p_ref {P T R : Nat} (h : right P T R) {w : Int} (h0 : 0 ≤ w) : layout_Plan_Ref.f P T R w = some (decide ((bs P T R : Int) ≤ w ∧ w < cl P T R)) := by
  have hr := plan_right_true h
  have hl := cl_le h
  unfold layout_Plan_Ref.f
  rw [hr]
  simp only [Option.bind_some, if_true]
  by_cases c1 : w > 4096
  · rw [if_pos c1]; congr 1; symm; rw [decide_eq_false_iff_not]; omega
  · rw [if_neg c1, w64 (by omega) (by omega), p_place h (by omega)]
    simp only [Option.bind_some]
    congr 1
    by_cases c2 : (bs P T R : Int) ≤ w ∧ w < cl P T R
    · rw [if_pos c2]; simp only [c2, and_self, decide_true, decide_eq_true_eq]; omega
    · rw [if_neg c2]; simp only [c2, decide_false, decide_eq_false_iff_not]; omega

end Go.Proofs.YtddkockeeodklaaDoor.Lay
