/- What the cells of a plan are for, in plain numbers; the reference's list, cell by cell. -/
import Derived.Test.YtmbgfmdmihmgdaaEo
import Derived.Test.YtmbgfmdmihmgdaaPAllx
namespace Go.Proofs.Ytmbgfmdmihmgdaa.Lay
open Go.RowKit Go.Proofs.Ytmbgfmdmihmgdaa.PAll Go.Proofs.YtmbgfmdmihmgdaaW.PrintWords Go.Proofs.YtmbgfmdmihmgdaaW.PrintLast
open Go.Proofs.Ytmbgfmdmihmgdaa.Eo
set_option linter.unusedVariables false
set_option linter.unusedSimpArgs false
set_option linter.unusedSectionVars false

/-- A spot: its kind, and two numbers. -/
structure S39 where
  f0 : Int
  f1 : Int
  f2 : Int

/-- Where the tables begin; where the heap does; how many cells. -/
def tb (T R : Nat) : Nat := 16 + T * (5 + R)
def bs (P T R : Nat) : Nat := (tb T R + 3 * P + 63) / 64 * 64
def cl (P T R : Nat) : Nat := bs P T R + 64 * P

def right (P T R : Nat) : Prop := 1 ≤ P ∧ P ≤ 32 ∧ 1 ≤ T ∧ T ≤ 6 ∧ 1 ≤ R ∧ R ≤ 16

def spotAt (P T R : Nat) (n : Nat) : S39 :=
  if n = 0 then ⟨0, 0, 0⟩
  else if n ≤ 6 then ⟨1, n, 0⟩
  else if n = 7 then ⟨0, 0, 0⟩
  else if n < 16 then ⟨2, (n : Int) - 8, 0⟩
  else if n < tb T R then
    (if (n - 16) % (5 + R) < 5 then ⟨3, ((n - 16) / (5 + R) : Nat), ((n - 16) % (5 + R) : Nat)⟩ else ⟨4, ((n - 16) / (5 + R) : Nat), (((n - 16) % (5 + R) : Nat) : Int) - 5⟩)
  else if n < tb T R + P then ⟨5, (n : Int) - tb T R, 0⟩
  else if n < tb T R + 2 * P then ⟨6, (n : Int) - tb T R - P, 0⟩
  else if n < tb T R + 3 * P then ⟨7, (n : Int) - tb T R - 2 * P, 0⟩
  else if n < bs P T R then ⟨0, 0, 0⟩
  else ⟨8, ((n - bs P T R) / 64 : Nat), ((n - bs P T R) % 64 : Nat)⟩

def G (P T R : Nat) (n : Nat) : List S39 := (List.range n).map (spotAt P T R)

theorem G_length (P T R n : Nat) : (G P T R n).length = n := by simp [G]
theorem G_snoc (P T R n : Nat) (s : S39) (h : spotAt P T R n = s) : G P T R n ++ [s] = G P T R (n + 1) := by
  simp [G, List.range_succ, h]

theorem tb_le {P T R : Nat} (h : right P T R) : tb T R ≤ 142 := by
  obtain ⟨_, _, h3, h4, h5, h6⟩ := h
  unfold tb
  have : T * (5 + R) ≤ 6 * 21 := Nat.mul_le_mul h4 (by omega)
  omega

theorem bs_ge (P T R : Nat) : tb T R + 3 * P ≤ bs P T R ∧ bs P T R ≤ tb T R + 3 * P + 63 ∧ bs P T R % 64 = 0 := by
  unfold bs; omega

theorem cl_le {P T R : Nat} (h : right P T R) : cl P T R ≤ 2400 := by
  have h1 := tb_le h
  have h2 := bs_ge P T R
  have := h.2.1
  unfold cl
  omega

/-- A thread's cell. -/
theorem spot_thread {P T R t j : Nat} (ht : t < T) (hj : j < 5) : spotAt P T R (16 + t * (5 + R) + j) = ⟨3, t, j⟩ := by
  have hd : (16 + t * (5 + R) + j - 16) / (5 + R) = t := by
    rw [show 16 + t * (5 + R) + j - 16 = j + t * (5 + R) by omega, Nat.add_mul_div_right _ _ (by omega), Nat.div_eq_of_lt (by omega)]; omega
  have hm : (16 + t * (5 + R) + j - 16) % (5 + R) = j := by
    rw [show 16 + t * (5 + R) + j - 16 = j + t * (5 + R) by omega, Nat.add_mul_mod_self_right, Nat.mod_eq_of_lt (by omega)]
  have hlt : 16 + t * (5 + R) + j < tb T R := by
    unfold tb
    have := Nat.mul_le_mul_right (5 + R) (show t + 1 ≤ T from ht)
    rw [Nat.add_mul] at this
    omega
  unfold spotAt
  rw [if_neg (by omega), if_neg (by omega), if_neg (by omega), if_neg (by omega), if_pos hlt, hd, hm, if_pos hj]

theorem spot_slot {P T R t j : Nat} (ht : t < T) (hj : j < R) : spotAt P T R (16 + t * (5 + R) + 5 + j) = ⟨4, t, j⟩ := by
  have hd : (16 + t * (5 + R) + 5 + j - 16) / (5 + R) = t := by
    rw [show 16 + t * (5 + R) + 5 + j - 16 = (5 + j) + t * (5 + R) by omega, Nat.add_mul_div_right _ _ (by omega), Nat.div_eq_of_lt (by omega)]; omega
  have hm : (16 + t * (5 + R) + 5 + j - 16) % (5 + R) = 5 + j := by
    rw [show 16 + t * (5 + R) + 5 + j - 16 = (5 + j) + t * (5 + R) by omega, Nat.add_mul_mod_self_right, Nat.mod_eq_of_lt (by omega)]
  have hlt : 16 + t * (5 + R) + 5 + j < tb T R := by
    unfold tb
    have := Nat.mul_le_mul_right (5 + R) (show t + 1 ≤ T from ht)
    rw [Nat.add_mul] at this
    omega
  unfold spotAt
  rw [if_neg (by omega), if_neg (by omega), if_neg (by omega), if_neg (by omega), if_pos hlt, hd, hm, if_neg (by omega)]
  congr 1
  omega

/-! ### the loops, from the last one back -/
section
variable {P T R : Nat} (h : right P T R)
include h

theorem thread_lt {t j : Nat} (ht : t < T) (hj : j ≤ 5 + R) : 16 + t * (5 + R) + j ≤ tb T R := by
  unfold tb
  have := Nat.mul_le_mul_right (5 + R) (show t + 1 ≤ T from ht)
  rw [Nat.add_mul] at this
  omega

theorem plan_right_true : layout_Plan_right.f P T R = some true := by
  obtain ⟨h1, h2, h3, h4, h5, h6⟩ := h
  unfold layout_Plan_right.f
  rw [if_pos (by omega), if_pos (by omega), if_pos (by omega), if_pos (by omega), if_pos (by omega)]
  simp; omega

end
/-! ### Where -/
section
variable {P T R : Nat} (h : right P T R)
include h

end
/-- What a cell's spot says of where it stands. -/
theorem spot_inv {P T R : Nat} (h : right P T R) {m : Nat} (hm : m < cl P T R) {a b c : Int} (e : spotAt P T R m = ⟨a, b, c⟩) :
    a = 0 ∨ (a = 1 ∧ 1 ≤ b ∧ b ≤ 6 ∧ c = 0 ∧ (m : Int) = b) ∨ (a = 2 ∧ 0 ≤ b ∧ b < 8 ∧ c = 0 ∧ (m : Int) = 8 + b) ∨
    (a = 3 ∧ 0 ≤ b ∧ b < T ∧ 0 ≤ c ∧ c < 5 ∧ (m : Int) = 16 + b * (5 + R) + c) ∨ (a = 4 ∧ 0 ≤ b ∧ b < T ∧ 0 ≤ c ∧ c < R ∧ (m : Int) = 16 + b * (5 + R) + 5 + c) ∨
    (a = 5 ∧ 0 ≤ b ∧ b < P ∧ c = 0 ∧ (m : Int) = tb T R + b) ∨ (a = 6 ∧ 0 ≤ b ∧ b < P ∧ c = 0 ∧ (m : Int) = tb T R + P + b) ∨ (a = 7 ∧ 0 ≤ b ∧ b < P ∧ c = 0 ∧ (m : Int) = tb T R + 2 * P + b) ∨
    (a = 8 ∧ 0 ≤ b ∧ b < P ∧ 0 ≤ c ∧ c < 64 ∧ (m : Int) = bs P T R + 64 * b + c) := by
  have h16 : 16 ≤ tb T R := by unfold tb; omega
  have hb := bs_ge P T R
  unfold cl at hm
  unfold spotAt at e
  split at e
  · injection e with e1 e2 e3; exact .inl e1.symm
  split at e
  · injection e with e1 e2 e3; exact .inr (.inl ⟨by omega, by omega, by omega, by omega, by omega⟩)
  split at e
  · injection e with e1 e2 e3; exact .inl e1.symm
  split at e
  · injection e with e1 e2 e3; exact .inr (.inr (.inl ⟨by omega, by omega, by omega, by omega, by omega⟩))
  split at e
  · rename_i h1 h2 h3 h4 h5
    have hdm := Nat.div_add_mod (m - 16) (5 + R)
    have hml := Nat.mod_lt (m - 16) (show 0 < 5 + R by omega)
    have hdl : (m - 16) / (5 + R) < T := by
      rw [Nat.div_lt_iff_lt_mul (by omega)]
      unfold tb at h5; omega
    have hcast : ((((m - 16) / (5 + R) : Nat) : Int)) * (5 + (R : Int)) = (((5 + R) * ((m - 16) / (5 + R)) : Nat) : Int) := by
      rw [Nat.mul_comm]; push_cast; rfl
    split at e
    · injection e with e1 e2 e3
      subst e1 e2 e3
      exact .inr (.inr (.inr (.inl ⟨rfl, Int.natCast_nonneg _, by omega, by omega, by omega, by rw [hcast]; omega⟩)))
    · injection e with e1 e2 e3
      subst e1 e2 e3
      exact .inr (.inr (.inr (.inr (.inl ⟨rfl, Int.natCast_nonneg _, by omega, by omega, by omega, by rw [hcast]; omega⟩))))
  split at e
  · injection e with e1 e2 e3; exact .inr (.inr (.inr (.inr (.inr (.inl ⟨by omega, by omega, by omega, by omega, by omega⟩)))))
  split at e
  · injection e with e1 e2 e3; exact .inr (.inr (.inr (.inr (.inr (.inr (.inl ⟨by omega, by omega, by omega, by omega, by omega⟩))))))
  split at e
  · injection e with e1 e2 e3; exact .inr (.inr (.inr (.inr (.inr (.inr (.inr (.inl ⟨by omega, by omega, by omega, by omega, by omega⟩)))))))
  split at e
  · injection e with e1 e2 e3; exact .inl e1.symm
  · injection e with e1 e2 e3; exact .inr (.inr (.inr (.inr (.inr (.inr (.inr (.inr ⟨by omega, by omega, by omega, by omega, by omega, by omega⟩)))))))

end Go.Proofs.Ytmbgfmdmihmgdaa.Lay
