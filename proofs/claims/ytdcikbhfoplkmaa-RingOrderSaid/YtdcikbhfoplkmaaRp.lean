/- A plan's places as numbers. -/
import Derived.Test.YtdcikbhfoplkmaaWt
namespace Go.Proofs.Ytdcikbhfoplkmaa.Ar
open Go Go.RowKit Go.Proofs.Ytdcikbhfoplkmaa.Hp Go.Proofs.Ytdcikbhfoplkmaa.PH
set_option linter.unusedVariables false
set_option linter.unusedSimpArgs false

def plOk (P T R : Int) : Prop := 1 ≤ P ∧ P ≤ 32 ∧ 1 ≤ T ∧ T ≤ 6 ∧ 1 ≤ R ∧ R ≤ 16
instance (P T R : Int) : Decidable (plOk P T R) := by unfold plOk; exact inferInstance
theorem rp_right (P T R : Int) : layout_Plan_right.f P T R = some (decide (plOk P T R)) := by
  unfold layout_Plan_right.f
  by_cases h : plOk P T R
  · rw [decide_eq_true h]
    unfold plOk at h
    rw [if_pos (by omega), if_pos (by omega), if_pos (by omega), if_pos (by omega), if_pos (by omega)]
    exact congrArg some (decide_eq_true (by omega))
  · rw [decide_eq_false h]
    unfold plOk at h
    repeat' split
    all_goals first | rfl | exact congrArg some (decide_eq_false (by omega))
theorem rp_right6 (P T R : Int) : windrowref06_Right.f P T R = some (decide (plOk P T R)) := by
  unfold windrowref06_Right.f
  by_cases h : plOk P T R
  · rw [decide_eq_true h]
    unfold plOk at h
    rw [if_pos (by omega), if_pos (by omega), if_pos (by omega), if_pos (by omega), if_pos (by omega)]
    exact congrArg some (decide_eq_true (by omega))
  · rw [decide_eq_false h]
    unfold plOk at h
    repeat' split
    all_goals first | rfl | exact congrArg some (decide_eq_false (by omega))
theorem rp_mul {t R : Int} (h0 : 0 ≤ t) (h1 : t < 6) (h2 : 1 ≤ R) (h3 : R ≤ 16) : wrap64 (t * wrap64 (5 + R)) = t * (5 + R) ∧ 0 ≤ t * (5 + R) ∧ t * (5 + R) ≤ 105 := by
  have e : wrap64 (5 + R) = 5 + R := by unfold wrap64; omega
  rw [e]
  have ht : t = 0 ∨ t = 1 ∨ t = 2 ∨ t = 3 ∨ t = 4 ∨ t = 5 := by omega
  rcases ht with rfl | rfl | rfl | rfl | rfl | rfl <;> refine ⟨?_, ?_, ?_⟩ <;> first | (unfold wrap64; omega) | omega
theorem rp_of (P T R t k : Int) (hk : 0 ≤ k ∧ k ≤ 30) : layout_Plan_of.f P T R t k = some (if plOk P T R ∧ 0 ≤ t ∧ t < T then 16 + t * (5 + R) + k else -1) := by
  unfold layout_Plan_of.f
  rw [rp_right]
  simp only [Option.bind_some, decide_eq_true_eq, layout_Plan_each.f]
  by_cases h : plOk P T R
  · rw [if_pos h]
    by_cases h0 : t < 0
    · rw [if_pos h0, if_neg (by omega)]
    · rw [if_neg h0]
      by_cases h1 : t ≥ T
      · rw [if_pos h1, if_neg (by omega)]
      · rw [if_neg h1, if_pos ⟨h, by omega, by omega⟩]
        have h' := h
        unfold plOk at h'
        obtain ⟨m1, m2, m3⟩ := rp_mul (t := t) (R := R) (by omega) (by omega) (by omega) (by omega)
        rw [m1]
        generalize t * (5 + R) = x at m2 m3 ⊢
        congr 1
        unfold wrap64
        omega
  · rw [if_neg h, if_neg (fun z => h z.1)]
theorem rp_ring (P T R t : Int) : ring_right.f P T R t = some (decide (plOk P T R ∧ 0 ≤ t ∧ t < T)) := by
  unfold ring_right.f layout_Plan_Status.f
  rw [rp_of P T R t 0 (by omega)]
  simp only [Option.bind_some]
  congr 1
  rw [decide_eq_decide]
  by_cases h : plOk P T R ∧ 0 ≤ t ∧ t < T
  · have h' := h.1
    unfold plOk at h'
    obtain ⟨m1, m2, m3⟩ := rp_mul (t := t) (R := R) (by omega) (by omega) (by omega) (by omega)
    rw [if_pos h]
    exact ⟨fun _ => h, fun _ => by omega⟩
  · rw [if_neg h]
    exact ⟨fun z => absurd z (by decide), fun z => absurd z h⟩
theorem rp_head {P T R t : Int} (h : plOk P T R ∧ 0 ≤ t ∧ t < T) : layout_Plan_Head.f P T R t = some (16 + t * (5 + R) + 3) ∧ 19 ≤ 16 + t * (5 + R) + 3 := by
  have h' := h.1
  unfold plOk at h'
  obtain ⟨m1, m2, m3⟩ := rp_mul (t := t) (R := R) (by omega) (by omega) (by omega) (by omega)
  refine ⟨?_, by omega⟩
  unfold layout_Plan_Head.f
  rw [rp_of P T R t 3 (by omega), if_pos h]
  rfl
end Go.Proofs.Ytdcikbhfoplkmaa.Ar
