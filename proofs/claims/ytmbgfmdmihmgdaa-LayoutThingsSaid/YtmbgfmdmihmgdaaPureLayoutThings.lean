/- Of every plan the cells of threads, globals and pages stand where the chapter says. For whatever plan and numbers of the kinds int and uint64. -/
import Derived.Test.YtmbgfmdmihmgdaaPAllx8
import Derived.Test.YtmbgfmdmihmgdaaLayP
namespace Go.Proofs.Ytmbgfmdmihmgdaa.Pure
open Go.RowKit Go.Proofs.Ytmbgfmdmihmgdaa.PAll Go.Proofs.YtmbgfmdmihmgdaaW.PrintWords Go.Proofs.YtmbgfmdmihmgdaaW.PrintLast
set_option linter.unusedVariables false
set_option linter.unusedSimpArgs false
open Go.Proofs.Ytmbgfmdmihmgdaa.Eo Go.Proofs.Ytmbgfmdmihmgdaa.Lay

section
variable {P T R : Nat} (h : right P T R)
include h

omit h in
theorem tb_lt : 16 ≤ tb T R ∧ tb T R + 3 * P ≤ bs P T R ∧ bs P T R + 64 * P = cl P T R := by
  have := bs_ge P T R
  refine ⟨by unfold tb; omega, by omega, rfl⟩

theorem w_global (i : Int) : Eo (fun k => windrowref06_Where.f k P T R 2 i 0) (if 0 ≤ i ∧ i < 8 then 8 + i else -1) := by
  have hl := (tb_lt (P := P) (T := T) (R := R))
  by_cases hi : 0 ≤ i ∧ i < 8
  · rw [if_pos hi]
    obtain ⟨n, rfl⟩ : ∃ n : Nat, i = n := ⟨i.toNat, by omega⟩
    have := where_at h (by omega) (show 8 + n < cl P T R by omega) (spot_2 (by omega))
    exact this
  · rw [if_neg hi]
    refine where_none h (by omega) fun m hm e => ?_
    rcases spot_inv h hm e with h2 | h2 | h2 | h2 | h2 | h2 | h2 | h2 | h2 <;> omega

theorem w_thread (i : Int) {j : Nat} (hj : j < 5) : Eo (fun k => windrowref06_Where.f k P T R 3 i j) (if 0 ≤ i ∧ i < T then 16 + i * (5 + R) + j else -1) := by
  have hl := (tb_lt (P := P) (T := T) (R := R))
  by_cases hi : 0 ≤ i ∧ i < T
  · rw [if_pos hi]
    obtain ⟨n, rfl⟩ : ∃ n : Nat, i = n := ⟨i.toNat, by omega⟩
    have hlt := thread_lt (T := T) (R := R) (t := n) (j := j) (by omega) (by omega)
    have hlt' := thread_lt (T := T) (R := R) (t := n) (j := 5 + R) (by omega) (by omega)
    have := where_at h (by omega) (show 16 + n * (5 + R) + j < cl P T R by omega) (spot_thread (by omega) hj)
    simpa using this
  · rw [if_neg hi]
    refine where_none h (by omega) fun m hm e => ?_
    rcases spot_inv h hm e with h2 | h2 | h2 | h2 | h2 | h2 | h2 | h2 | h2 <;> omega

theorem w_slot (i : Int) {j : Nat} (hj : j < R) : Eo (fun k => windrowref06_Where.f k P T R 4 i j) (if 0 ≤ i ∧ i < T then 16 + i * (5 + R) + 5 + j else -1) := by
  have hl := (tb_lt (P := P) (T := T) (R := R))
  by_cases hi : 0 ≤ i ∧ i < T
  · rw [if_pos hi]
    obtain ⟨n, rfl⟩ : ∃ n : Nat, i = n := ⟨i.toNat, by omega⟩
    have hlt' := thread_lt (T := T) (R := R) (t := n) (j := 5 + R) (by omega) (by omega)
    have := where_at h (by omega) (show 16 + n * (5 + R) + 5 + j < cl P T R by omega) (spot_slot (by omega) hj)
    simpa using this
  · rw [if_neg hi]
    refine where_none h (by omega) fun m hm e => ?_
    rcases spot_inv h hm e with h2 | h2 | h2 | h2 | h2 | h2 | h2 | h2 | h2 <;> omega

theorem w_5 (i : Int) : Eo (fun k => windrowref06_Where.f k P T R 5 i 0) (if 0 ≤ i ∧ i < P then tb T R + i else -1) := by
  have hl := (tb_lt (P := P) (T := T) (R := R))
  by_cases hi : 0 ≤ i ∧ i < P
  · rw [if_pos hi]
    obtain ⟨n, rfl⟩ : ∃ n : Nat, i = n := ⟨i.toNat, by omega⟩
    have := where_at h (by omega) (show tb T R + n < cl P T R by omega) (spot_5 (by omega))
    simpa using this
  · rw [if_neg hi]
    refine where_none h (by omega) fun m hm e => ?_
    rcases spot_inv h hm e with h2 | h2 | h2 | h2 | h2 | h2 | h2 | h2 | h2 <;> omega

theorem w_6 (i : Int) : Eo (fun k => windrowref06_Where.f k P T R 6 i 0) (if 0 ≤ i ∧ i < P then tb T R + P + i else -1) := by
  have hl := (tb_lt (P := P) (T := T) (R := R))
  by_cases hi : 0 ≤ i ∧ i < P
  · rw [if_pos hi]
    obtain ⟨n, rfl⟩ : ∃ n : Nat, i = n := ⟨i.toNat, by omega⟩
    have := where_at h (by omega) (show tb T R + P + n < cl P T R by omega) (spot_6 (by omega))
    simpa using this
  · rw [if_neg hi]
    refine where_none h (by omega) fun m hm e => ?_
    rcases spot_inv h hm e with h2 | h2 | h2 | h2 | h2 | h2 | h2 | h2 | h2 <;> omega

theorem w_7 (i : Int) : Eo (fun k => windrowref06_Where.f k P T R 7 i 0) (if 0 ≤ i ∧ i < P then tb T R + 2 * P + i else -1) := by
  have hl := (tb_lt (P := P) (T := T) (R := R))
  by_cases hi : 0 ≤ i ∧ i < P
  · rw [if_pos hi]
    obtain ⟨n, rfl⟩ : ∃ n : Nat, i = n := ⟨i.toNat, by omega⟩
    have := where_at h (by omega) (show tb T R + 2 * P + n < cl P T R by omega) (spot_7 (by omega))
    simpa using this
  · rw [if_neg hi]
    refine where_none h (by omega) fun m hm e => ?_
    rcases spot_inv h hm e with h2 | h2 | h2 | h2 | h2 | h2 | h2 | h2 | h2 <;> omega

theorem w_8 (i j : Int) : Eo (fun k => windrowref06_Where.f k P T R 8 i j) (if 0 ≤ i ∧ i < P ∧ 0 ≤ j ∧ j < 64 then bs P T R + i * 64 + j else -1) := by
  have hl := (tb_lt (P := P) (T := T) (R := R))
  by_cases hi : 0 ≤ i ∧ i < P ∧ 0 ≤ j ∧ j < 64
  · rw [if_pos hi]
    obtain ⟨n, rfl⟩ : ∃ n : Nat, i = n := ⟨i.toNat, by omega⟩
    obtain ⟨m, rfl⟩ : ∃ n : Nat, j = n := ⟨j.toNat, by omega⟩
    have := where_at h (by omega) (show bs P T R + 64 * n + m < cl P T R by omega) (spot_heap (by omega))
    rw [show (bs P T R : Int) + (n : Int) * 64 + m = ((bs P T R + 64 * n + m : Nat) : Int) by omega]
    exact this
  · rw [if_neg hi]
    refine where_none h (by omega) fun m hm e => ?_
    rcases spot_inv h hm e with h2 | h2 | h2 | h2 | h2 | h2 | h2 | h2 | h2 <;> omega

/-- The law's second part, at a plan. -/
theorem j0_ev (i j n : Int) (hn : 0 ≤ n) (hn2 : n ≤ 18446744073709551615) : Eo (fun k => windrowlaw06_LayoutThings.j0 k i j n (if 0 ≤ i ∧ i < T then 16 + i * (5 + R) + 5 + n % R else -1) P T R P T R) true := by
  obtain ⟨K1, e1⟩ := w_global h i
  obtain ⟨K2, e2⟩ := w_thread h i (j := 0) (by omega)
  obtain ⟨K3, e3⟩ := w_thread h i (j := 1) (by omega)
  obtain ⟨K4, e4⟩ := w_thread h i (j := 2) (by omega)
  obtain ⟨K5, e5⟩ := w_thread h i (j := 3) (by omega)
  obtain ⟨K6, e6⟩ := w_thread h i (j := 4) (by omega)
  obtain ⟨K7, e7⟩ := w_5 h i
  obtain ⟨K8, e8⟩ := w_6 h i
  obtain ⟨K9, e9⟩ := w_7 h i
  obtain ⟨K10, e10⟩ := w_8 h i j
  refine ⟨K1 + K2 + K3 + K4 + K5 + K6 + K7 + K8 + K9 + K10 + 1, fun k hk => ?_⟩
  obtain ⟨m, rfl⟩ : ∃ m, k = m + 1 := ⟨k - 1, by omega⟩
  replace e1 := e1 m (by omega)
  have e2' : windrowref06_Where.f m P T R 3 i 0 = some (if 0 ≤ i ∧ i < T then 16 + i * (5 + R) + 0 else -1) := e2 m (by omega)
  have e3' : windrowref06_Where.f m P T R 3 i 1 = some (if 0 ≤ i ∧ i < T then 16 + i * (5 + R) + 1 else -1) := e3 m (by omega)
  have e4' : windrowref06_Where.f m P T R 3 i 2 = some (if 0 ≤ i ∧ i < T then 16 + i * (5 + R) + 2 else -1) := e4 m (by omega)
  have e5' : windrowref06_Where.f m P T R 3 i 3 = some (if 0 ≤ i ∧ i < T then 16 + i * (5 + R) + 3 else -1) := e5 m (by omega)
  have e6' : windrowref06_Where.f m P T R 3 i 4 = some (if 0 ≤ i ∧ i < T then 16 + i * (5 + R) + 4 else -1) := e6 m (by omega)
  replace e7 := e7 m (by omega)
  replace e8 := e8 m (by omega)
  replace e9 := e9 m (by omega)
  replace e10 := e10 m (by omega)
  simp only [windrowlaw06_LayoutThings.j0, laid_true, Option.bind_some, if_true, p_global h, e1, p_status h, e2', p_ack h, e3', p_result h, e4', p_head h, e5', p_tail h, e6', p_slot h hn hn2, p_entry h, e7, p_alloc h, e8, p_mark h, e9, p_addr h, e10, BEq.rfl]
end

theorem LayoutThings : windrowlaw06_LayoutThings.Pure := by
  intro a b c i j n _ _ _ _ _ hn
  obtain ⟨hn0, hn1⟩ := bounds_u64 hn
  rcases right_cases a b c with ⟨P, T, R, rfl, rfl, rfl, h⟩ | ⟨h1, h2⟩
  · have hR := h.2.2.2.2
    have hb := Int.emod_lt_of_pos n (show (0 : Int) < R by omega)
    have hb0 := Int.emod_nonneg n (show (R : Int) ≠ 0 by omega)
    obtain ⟨m, hm⟩ : ∃ m : Nat, n % (R : Int) = m := ⟨(n % (R : Int)).toNat, by omega⟩
    have hw := w_slot h i (j := m) (by omega)
    rw [← hm] at hw
    obtain ⟨k, e1, e2⟩ := hw.two (j0_ev h i j n hn0 hn1)
    refine ⟨k, ?_⟩
    unfold windrowlaw06_LayoutThings.f windrowlaw06_plan.f
    rw [right_true h]
    simp only [Option.bind_some, if_true]
    rw [u64i (by omega) (by omega), if_neg (by omega), tm hn0, w64 (by omega) (by omega), e1]
    exact e2
  · refine ⟨2, ?_⟩
    have hwhere : ∀ x y z : Int, windrowref06_Where.f 1 a b c x y z = some (-1) := by
      intro x y z
      unfold windrowref06_Where.f windrowref06_Spots.f
      rw [h1]; rfl
    have hg : layout_Plan_Global.f a b c i = some (-1) := by unfold layout_Plan_Global.f; rw [h2]; rfl
    have hs : layout_Plan_Slot.f a b c i n = some (-1) := by unfold layout_Plan_Slot.f; rw [no_of h2]; rfl
    have ha : layout_Plan_Addr.f a b c i j = some (-1) := by unfold layout_Plan_Addr.f; rw [h2]; rfl
    unfold windrowlaw06_LayoutThings.f windrowlaw06_plan.f
    rw [h1]
    simp only [Option.bind_some, Bool.false_eq_true, if_false, windrowlaw06_LayoutThings.j0, laid_true, if_true, hwhere, hg, layout_Plan_Status.f, layout_Plan_Ack.f, layout_Plan_Result.f, layout_Plan_Head.f, layout_Plan_Tail.f, hs, ha, layout_Plan_Entry.f, layout_Plan_Alloc.f, layout_Plan_Mark.f, no_of h2, no_page h2, BEq.rfl]
end Go.Proofs.Ytmbgfmdmihmgdaa.Pure
