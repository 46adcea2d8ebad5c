/- Every cell that is for something is found by what it is for; no two cells are for the same. For whatever five numbers of the kind int. -/
import Derived.Test.YtmbgfmdmihmgdaaLayG
namespace Go.Proofs.Ytmbgfmdmihmgdaa.Pure
open Go.RowKit Go.Proofs.Ytmbgfmdmihmgdaa.PAll Go.Proofs.YtmbgfmdmihmgdaaW.PrintWords Go.Proofs.YtmbgfmdmihmgdaaW.PrintLast
set_option linter.unusedVariables false
set_option linter.unusedSimpArgs false
set_option linter.unusedSectionVars false
open Go.Proofs.Ytmbgfmdmihmgdaa.Eo Go.Proofs.Ytmbgfmdmihmgdaa.Lay

theorem cutA (x : Int) {m : Int} (h0 : 0 < m) (h1 : m ≤ 100000) : ∃ n : Nat, (n : Int) < m ∧ wrap64 (Int.tmod (IntKind.u64.wrap x) m) = n := by
  have hx : 0 ≤ IntKind.u64.wrap x := by rw [u64w]; omega
  rw [tm hx]
  have hb := Int.emod_lt_of_pos (IntKind.u64.wrap x) h0
  have hb0 := Int.emod_nonneg (IntKind.u64.wrap x) (show m ≠ 0 by omega)
  exact ⟨(IntKind.u64.wrap x % m).toNat, by omega, by rw [w64 (by omega) (by omega)]; omega⟩

/-- Two cells that are for the same thing are one. -/
theorem spot_one {P T R : Nat} (h : right P T R) {m n : Nat} (hm : m < cl P T R) (hn : n < cl P T R) {a b c : Int} (ha : a ≠ 0) (e : spotAt P T R m = ⟨a, b, c⟩) (f : spotAt P T R n = ⟨a, b, c⟩) : m = n := by
  have h1 := spot_inv h hm e
  have h2 := spot_inv h hn f
  clear e f
  rcases h1 with h1 | h1 | h1 | h1 | h1 | h1 | h1 | h1 | h1 <;> rcases h2 with h2 | h2 | h2 | h2 | h2 | h2 | h2 | h2 | h2 <;> omega

theorem spot_none {P T R : Nat} {m : Nat} (h : bs P T R ≤ m) : (spotAt P T R m).f0 = 8 := by
  have hb := bs_ge P T R
  have h16 : 16 ≤ tb T R := by unfold tb; omega
  unfold spotAt
  rw [if_neg (by omega), if_neg (by omega), if_neg (by omega), if_neg (by omega), if_neg (by omega), if_neg (by omega), if_neg (by omega), if_neg (by omega), if_neg (by omega)]

theorem j1_true {P T R : Nat} (h : right P T R) {m : Nat} (hm : m < cl P T R) (k : Nat) {a b c : Int} (e : spotAt P T R m = ⟨a, b, c⟩) :
    windrowlaw06_LayoutApart.j1 (k + 1) (m : Int) false P T R a b c = some true := by
  have hi := spot_inv h hm e
  have hl := cl_le h
  rw [windrowlaw06_LayoutApart.j1]
  refine itn (by simp) ?_
  rcases hi with rfl | ⟨rfl, h1, h2, rfl, h3⟩ | ⟨rfl, h1, h2, rfl, h3⟩ | ⟨rfl, h1, h2, h3, h4, h5⟩ | ⟨rfl, h1, h2, h3, h4, h5⟩ | ⟨rfl, h1, h2, rfl, h3⟩ | ⟨rfl, h1, h2, rfl, h3⟩ | ⟨rfl, h1, h2, rfl, h3⟩ | ⟨rfl, h1, h2, h3, h4, h5⟩
  · refine itp rfl ?_
    by_cases h8 : (m : Int) < 8
    · exact itp h8 rfl
    · refine itn h8 (bnd (p_base h) ?_)
      have : ¬ bs P T R ≤ m := fun z => by
        have := spot_none (P := P) (T := T) (R := R) z
        rw [e] at this; exact absurd (show (0 : Int) = 8 from this) (by decide)
      rw [decide_eq_true (by omega)]
  · refine itn (by decide) (itp rfl ?_)
    rw [h3, beq_self_eq_true]
  · refine itn (by decide) (itn (by decide) (itp rfl (bnd (p_global h) ?_)))
    rw [if_pos (by omega), ← h3, beq_self_eq_true]
  · refine itn (by decide) (itn (by decide) (itn (by decide) (itp rfl (bnd (p_status h) (bnd (p_ack h) (bnd (p_result h) (bnd (p_head h) (bnd (p_tail h) ?_))))))))
    refine bnd rfl (itp (by omega) (itp (by omega) (itp (by omega) (itp (show c < (5 : Int) by omega) ?_))))
    rw [if_pos ⟨h1, h2⟩, if_pos ⟨h1, h2⟩, if_pos ⟨h1, h2⟩, if_pos ⟨h1, h2⟩, if_pos ⟨h1, h2⟩]
    have hc : c = 0 ∨ c = 1 ∨ c = 2 ∨ c = 3 ∨ c = 4 := by omega
    rcases hc with rfl | rfl | rfl | rfl | rfl
    · show some ((16 + b * (5 + (R : Int)) + 0) == (m : Int)) = some true
      rw [← h5, beq_self_eq_true]
    · show some ((16 + b * (5 + (R : Int)) + 1) == (m : Int)) = some true
      rw [← h5, beq_self_eq_true]
    · show some ((16 + b * (5 + (R : Int)) + 2) == (m : Int)) = some true
      rw [← h5, beq_self_eq_true]
    · show some ((16 + b * (5 + (R : Int)) + 3) == (m : Int)) = some true
      rw [← h5, beq_self_eq_true]
    · show some ((16 + b * (5 + (R : Int)) + 4) == (m : Int)) = some true
      rw [← h5, beq_self_eq_true]
  · have hR := h.2.2.2.2.2
    have hs : layout_Plan_Slot.f P T R b (IntKind.u64.wrap c) = some (m : Int) := by
      rw [u64i (by omega) (by omega), p_slot h h3 (by omega), if_pos ⟨h1, h2⟩, Int.emod_eq_of_lt h3 h4, ← h5]
    refine itn (by decide) (itn (by decide) (itn (by decide) (itn (by decide) (itp rfl (bnd hs ?_)))))
    rw [beq_self_eq_true]
  · refine itn (by decide) (itn (by decide) (itn (by decide) (itn (by decide) (itn (by decide) (itp rfl (bnd (p_entry h) ?_))))))
    rw [if_pos ⟨h1, h2⟩, ← h3, beq_self_eq_true]
  · refine itn (by decide) (itn (by decide) (itn (by decide) (itn (by decide) (itn (by decide) (itn (by decide) (itp rfl (bnd (p_alloc h) ?_)))))))
    rw [if_pos ⟨h1, h2⟩, ← h3, beq_self_eq_true]
  · refine itn (by decide) (itn (by decide) (itn (by decide) (itn (by decide) (itn (by decide) (itn (by decide) (itn (by decide) (itp rfl (bnd (p_mark h) ?_))))))))
    rw [if_pos ⟨h1, h2⟩, ← h3, beq_self_eq_true]
  · refine itn (by decide) (itn (by decide) (itn (by decide) (itn (by decide) (itn (by decide) (itn (by decide) (itn (by decide) (itn (by decide) (itp rfl (bnd (p_addr h) ?_)))))))))
    rw [if_pos ⟨h1, h2, h3, h4⟩, show (bs P T R : Int) + b * 64 + c = (m : Int) by omega, beq_self_eq_true]

theorem find_at {P T R : Nat} (h : right P T R) {m : Nat} (hm : m < cl P T R) (k : Nat) {a b c : Int} (e : spotAt P T R m = ⟨a, b, c⟩) : layout_Plan_Find.f (k + 2) P T R (m : Int) = some (a, b, c) := by
  have hl := cl_le h
  have es : spotOr P T R (m : Int) = ⟨a, b, c⟩ := by unfold spotOr; rw [if_pos (by omega)]; exact e
  rw [p_find h (m : Int) (by omega) k, es]

theorem j0_true {P T R : Nat} (h : right P T R) (i j : Int) (k : Nat) : windrowlaw06_LayoutApart.j0 (k + 3) i j false P T R = some true := by
  have hl := cl_le h
  have hcl : cl P T R = bs P T R + 64 * P := rfl
  have hP := h.1
  have wc : IntKind.u64.wrap (cl P T R : Int) = cl P T R := u64i (by omega) (by omega)
  obtain ⟨m, hm, em⟩ := cutA i (m := (cl P T R : Int)) (by omega) (by omega)
  obtain ⟨n, hn, en⟩ := cutA j (m := (cl P T R : Int)) (by omega) (by omega)
  obtain ⟨⟨a, b, c⟩, ea⟩ : ∃ s, spotAt P T R m = s := ⟨_, rfl⟩
  obtain ⟨⟨a', b', c'⟩, eb⟩ : ∃ s, spotAt P T R n = s := ⟨_, rfl⟩
  rw [windrowlaw06_LayoutApart.j0]
  refine itn (by simp) (bnd (p_cells h) (itn (by rw [wc]; omega) (bnd (p_cells h) (itn (by rw [wc]; omega) ?_))))
  rw [wc, em, en]
  refine bnd (find_at h (by omega) k ea) (bnd (find_at h (by omega) k eb) ?_)
  have fin := j1_true h (m := m) (by omega) (k + 1) ea
  by_cases hs : (a == a' && (b == b' && (c == c'))) = true
  · refine itp hs ?_
    by_cases hz : (!(a == 0) || (!(b == 0) || (!(c == 0)))) = true
    · refine itp hz ?_
      simp only [Bool.and_eq_true, beq_iff_eq] at hs
      obtain ⟨rfl, rfl, rfl⟩ := hs
      have ha : a ≠ 0 := by
        rintro rfl
        have hi := spot_inv h (m := m) (by omega) ea
        have hz2 : ∀ q : Nat, (spotAt P T R q).f0 = 0 → (spotAt P T R q).f1 = 0 ∧ (spotAt P T R q).f2 = 0 := fun q => by
          unfold spotAt
          repeat' split
          all_goals (intro z; first | exact ⟨rfl, rfl⟩ | (exact absurd z (by dsimp only; decide)))
        have := hz2 m (by rw [ea])
        rw [ea] at this
        obtain ⟨z1, z2⟩ := this
        have z1' : b = 0 := z1
        have z2' : c = 0 := z2
        rw [z1', z2'] at hz; exact absurd hz (by decide)
      obtain rfl := spot_one h (m := m) (n := n) (by omega) (by omega) ha ea eb
      show windrowlaw06_LayoutApart.j1 (k + 2) (m : Int) ((m : Int) != (m : Int)) P T R a b c = some true
      rw [show ((m : Int) != (m : Int)) = false by simp]
      exact fin
    · exact itn hz fin
  · exact itn hs fin

theorem LayoutApart : windrowlaw06_LayoutApart.Pure := by
  intro a b c i j _ _ _ _ _
  obtain ⟨P', hP, eP⟩ := cutA a (show (0 : Int) < 32 by omega) (by omega)
  obtain ⟨T', hT, eT⟩ := cutA b (show (0 : Int) < 6 by omega) (by omega)
  obtain ⟨R', hR, eR⟩ := cutA c (show (0 : Int) < 16 by omega) (by omega)
  have h : right (1 + P') (1 + T') (1 + R') := by unfold right; omega
  have e1 : ∀ n : Nat, n ≤ 100 → wrap64 (1 + (n : Int)) = ((1 + n : Nat) : Int) := fun n hn => by rw [w64 (by omega) (by omega)]; omega
  have hnew : layout_New.f ((1 + P' : Nat) : Int) ((1 + T' : Nat) : Int) ((1 + R' : Nat) : Int) = some (((1 + P' : Nat) : Int), ((1 + T' : Nat) : Int), ((1 + R' : Nat) : Int), 0) := by
    unfold layout_New.f
    exact bnd (plan_right_true h) (itp rfl rfl)
  refine ⟨0 + 3, ?_⟩
  unfold windrowlaw06_LayoutApart.f
  rw [eP, eT, eR, e1 _ (by omega), e1 _ (by omega), e1 _ (by omega)]
  refine bnd hnew (bnd laid_true (itp rfl (itp rfl (bnd (p_cells h) ?_))))
  have hcl : cl (1 + P') (1 + T') (1 + R') = bs (1 + P') (1 + T') (1 + R') + 64 * (1 + P') := rfl
  rw [decide_eq_false (by omega)]
  exact j0_true h i j 0
end Go.Proofs.Ytmbgfmdmihmgdaa.Pure
