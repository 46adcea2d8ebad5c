/- The class, the pages, and what is taken, are what the chapter says. For whatever two numbers. -/
import Derived.Test.YtjakjaohgndebaaDoorSzA
namespace Go.Proofs.YtjakjaohgndebaaDoor.Pure
open Go Go.RowKit Go.Proofs.YtjakjaohgndebaaDoor.PAll Go.Proofs.YtjakjaohgndebaaDoorW.PrintWords Go.Proofs.YtjakjaohgndebaaDoorW.PrintLast Go.Proofs.YtjakjaohgndebaaDoorW.PrintMore
open Go.Proofs.YtjakjaohgndebaaDoor.Eo Go.Proofs.YtjakjaohgndebaaDoor.Wd Go.Proofs.YtjakjaohgndebaaDoor.Bt Go.Proofs.YtjakjaohgndebaaDoor.Wp Go.Proofs.YtjakjaohgndebaaDoor.Sz
set_option linter.unusedVariables false
set_option linter.unusedSimpArgs false
set_option linter.unusedSectionVars false

theorem class_all : ∀ x : Fin 32, windrowref05_Class.f 20 ((x.1 + 1 : Nat) : Int) = some (cls ((x.1 + 1 : Nat) : Int), 0) := by decide +kernel
theorem pages_all : ∀ x : Fin 256, windrowref05_Pages.f 20 ((x.1 + 1 : Nat) : Int) = some (pgs ((x.1 + 1 : Nat) : Int), 0) := by decide +kernel

theorem rclass_eo {a : Int} (h1 : 1 ≤ a) (h2 : a ≤ 32) : Eo (fun k => windrowref05_Class.f k a) (cls a, 0) := by
  have := class_all ⟨(a - 1).toNat, by omega⟩
  have e : (((a - 1).toNat + 1 : Nat) : Int) = a := by omega
  simp only [e] at this
  exact mono_all (windrowref05_Class.mono _) this

theorem rpages_eo {a : Int} (h1 : 1 ≤ a) (h2 : a ≤ 256) : Eo (fun k => windrowref05_Pages.f k a) (pgs a, 0) := by
  have := pages_all ⟨(a - 1).toNat, by omega⟩
  have e : (((a - 1).toNat + 1 : Nat) : Int) = a := by omega
  simp only [e] at this
  exact mono_all (windrowref05_Pages.mono _) this

theorem rclass_big {a : Int} (h : 32 < a) : Eo (fun k => windrowref05_Class.f k a) (0, 3) := by
  have st : ∀ d j : Nat, j + d = 8 → Eo (fun k => windrowref05_Class.l0 k a (j : Int)) (0, 3) := by
    intro d
    induction d with
    | zero =>
      intro j hj
      refine (Eo.of (g := fun _ => some ((0 : Int), (3 : Int))) fun _ => rfl).round fun k => ?_
      rw [windrowref05_Class.l0]; exact itn (by omega) rfl
    | succ d ih =>
      intro j hj
      have hs := sz_all (a := (j : Int)) ⟨by omega, by omega⟩
      refine (ih (j + 1) (by omega)).round fun k => ?_
      rw [windrowref05_Class.l0, w64 (x := (j : Int) + 1) (by omega) (by omega)]
      exact itp (by omega) (bnd (rwords_yes ⟨by omega, by omega⟩) (itn (by show ¬ sz (j : Int) ≥ a; omega) rfl))
  refine (st 8 0 (by omega)).congr fun k => ?_
  unfold windrowref05_Class.f
  exact itn (by omega) rfl

theorem pgs_pos {a : Int} (h : 32 < a) (h2 : a ≤ 256) : pgs a = (a + 63) / 64 ∧ 1 ≤ (a + 63) / 64 ∧ (a + 63) / 64 ≤ 4 := by
  unfold pgs; rw [if_neg (by omega)]; exact ⟨rfl, by omega, by omega⟩

theorem classes_eo (a : Int) : ∃ r, sizes_Class.f a = some r ∧ Eo (fun k => windrowref05_Class.f k a) r := by
  unfold sizes_Class.f
  by_cases h1 : a < 1
  · exact ⟨(0, 1), by rw [if_pos h1], Eo.of fun k => by unfold windrowref05_Class.f; exact itp h1 rfl⟩
  · by_cases h2 : 32 < a
    · exact ⟨(0, 3), by rw [if_neg h1, if_pos h2], rclass_big h2⟩
    · exact ⟨(cls a, 0), by rw [if_neg h1, if_neg h2], rclass_eo (by omega) (by omega)⟩

theorem pagess_eo (a : Int) : ∃ r, sizes_Pages.f a = some r ∧ Eo (fun k => windrowref05_Pages.f k a) r := by
  unfold sizes_Pages.f
  by_cases h1 : a < 1
  · exact ⟨(0, 1), by rw [if_pos h1], Eo.of fun k => by unfold windrowref05_Pages.f; exact itp h1 rfl⟩
  · by_cases h2 : 256 < a
    · exact ⟨(0, 3), by rw [if_neg h1, if_pos h2], Eo.of fun k => by unfold windrowref05_Pages.f; exact itn h1 (itp (by omega) rfl)⟩
    · exact ⟨(pgs a, 0), by rw [if_neg h1, if_neg h2], rpages_eo (by omega) (by omega)⟩

theorem rpages_low {a : Int} (h1 : a < 1) : Eo (fun k => windrowref05_Pages.f k a) (0, 1) := Eo.of fun k => by unfold windrowref05_Pages.f; exact itp h1 rfl
theorem rpages_high {a : Int} (h2 : 256 < a) : Eo (fun k => windrowref05_Pages.f k a) (0, 3) := Eo.of fun k => by unfold windrowref05_Pages.f; exact itn (by omega) (itp (by omega) rfl)

theorem roundss_eo (a : Int) : ∃ r, sizes_Rounds.f a = some r ∧ Eo (fun k => windrowref05_Rounds.f k a) r := by
  unfold sizes_Rounds.f
  by_cases h1 : a < 1
  · refine ⟨(0, 1), by rw [if_pos h1], ?_⟩
    obtain ⟨K, hK⟩ := rpages_low h1
    exact ⟨K, fun k hk => by show windrowref05_Rounds.f k a = _; unfold windrowref05_Rounds.f; exact bnd (hK k hk) (itn (by simp) rfl)⟩
  · by_cases h2 : 256 < a
    · refine ⟨(0, 3), by rw [if_neg h1, if_pos h2], ?_⟩
      obtain ⟨K, hK⟩ := rpages_high h2
      exact ⟨K, fun k hk => by show windrowref05_Rounds.f k a = _; unfold windrowref05_Rounds.f; exact bnd (hK k hk) (itn (by simp) rfl)⟩
    · obtain ⟨K, hK⟩ := rpages_eo (a := a) (by omega) (by omega)
      by_cases h3 : 32 < a
      · obtain ⟨p1, p2, p3⟩ := pgs_pos h3 (by omega)
        refine ⟨((a + 63) / 64 * 64, 0), by rw [if_neg h1, if_neg h2, if_pos h3], K, fun k hk => ?_⟩
        show windrowref05_Rounds.f k a = _
        unfold windrowref05_Rounds.f
        refine bnd (hK k hk) (itp rfl ?_)
        rw [p1]
        exact itp (by show (a + 63) / 64 > 0; omega) (by rw [w64 (by omega) (by omega)])
      · obtain ⟨K2, hK2⟩ := rclass_eo (a := a) (by omega) (by omega)
        refine ⟨(sz (cls a), 0), by rw [if_neg h1, if_neg h2, if_neg h3], K + K2, fun k hk => ?_⟩
        show windrowref05_Rounds.f k a = _
        unfold windrowref05_Rounds.f
        have e : pgs a = 0 := if_pos (by omega)
        exact bnd (hK k (by omega)) (itp rfl (itn (by show ¬ pgs a > 0; omega) (bnd (hK2 k (by omega)) (bnd (rwords_yes (cls_bd a)) rfl))))

theorem fillss_eo (a b : Int) : ∃ r, sizes_Fills.f a b = some r ∧ Eo (fun k => windrowref05_Fills.f k a b) r := by
  unfold sizes_Fills.f
  by_cases h1 : a < 1
  · refine ⟨(0, 1), by rw [if_pos h1], ?_⟩
    obtain ⟨K, hK⟩ := rpages_low h1
    exact ⟨K, fun k hk => by show windrowref05_Fills.f k a b = _; unfold windrowref05_Fills.f; exact bnd (hK k hk) (itn (by simp) rfl)⟩
  · by_cases h2 : 256 < a
    · refine ⟨(0, 3), by rw [if_neg h1, if_pos h2], ?_⟩
      obtain ⟨K, hK⟩ := rpages_high h2
      exact ⟨K, fun k hk => by show windrowref05_Fills.f k a b = _; unfold windrowref05_Fills.f; exact bnd (hK k hk) (itn (by simp) rfl)⟩
    · obtain ⟨K, hK⟩ := rpages_eo (a := a) (by omega) (by omega)
      have go : ∀ (c : Bool) (r : Int × Int), c = decide (¬ (0 ≤ b ∧ b ≤ 32)) → Eo (fun k => windrowref05_Fills.j0 k a b (pgs a) c) r → Eo (fun k => windrowref05_Fills.f k a b) r := by
        rintro c r hc ⟨K2, hK2⟩
        refine ⟨K + K2, fun k hk => ?_⟩
        show windrowref05_Fills.f k a b = _
        unfold windrowref05_Fills.f
        refine bnd (hK k (by omega)) (itp rfl ?_)
        by_cases hb : b < 0
        · have : c = true := by rw [hc]; exact decide_eq_true (by omega)
          subst this
          exact itp hb (hK2 k (by omega))
        · have : c = decide (b > 32) := by rw [hc]; exact decide_eq_decide.mpr (by omega)
          subst this
          exact itn hb (hK2 k (by omega))
      by_cases hb : 0 ≤ b ∧ b ≤ 32
      · have hc : false = decide (¬ (0 ≤ b ∧ b ≤ 32)) := (decide_eq_false (fun z => z hb)).symm
        by_cases h3 : 32 < a
        · obtain ⟨p1, p2, p3⟩ := pgs_pos h3 (by omega)
          refine ⟨(b / ((a + 63) / 64), 0), by rw [if_neg h1, if_neg h2, if_pos hb, if_pos h3], go _ _ hc ?_⟩
          refine (Eo.of (g := fun _ => some (b / ((a + 63) / 64), (0 : Int))) fun _ => rfl).round fun k => ?_
          rw [windrowref05_Fills.j0, p1]
          have q1 : 0 ≤ b / ((a + 63) / 64) := Int.ediv_nonneg hb.1 (by omega)
          have q2 : b / ((a + 63) / 64) ≤ b := Int.ediv_le_self _ hb.1
          refine itn (by simp) (itp (by omega) (itn (by omega) ?_))
          rw [td hb.1, w64 (by omega) (by omega)]
        · have e : pgs a = 0 := if_pos (by omega)
          obtain ⟨K2, hK2⟩ := rclass_eo (a := a) (by omega) (by omega)
          obtain ⟨K3, hK3⟩ := begs_eo (cls_bd a)
          have hl := begs_len (cls_bd a)
          have hs := sz_all (cls_bd a)
          have q1 : 0 ≤ 64 / sz (cls a) := Int.ediv_nonneg (by omega) (by omega)
          have q2 : 64 / sz (cls a) ≤ 64 := Int.ediv_le_self _ (by omega)
          have q3 : 0 ≤ b * (64 / sz (cls a)) := Int.mul_nonneg hb.1 q1
          have q4 : b * (64 / sz (cls a)) ≤ 32 * 64 := Int.mul_le_mul hb.2 q2 q1 (by omega)
          refine ⟨(b * (64 / sz (cls a)), 0), by rw [if_neg h1, if_neg h2, if_pos hb, if_neg h3], go _ _ hc ?_⟩
          refine ⟨K2 + K3 + 1, fun k hk => ?_⟩
          obtain ⟨q, rfl⟩ : ∃ q, k = q + 1 := ⟨k - 1, by omega⟩
          show windrowref05_Fills.j0 (q + 1) a b (pgs a) false = _
          rw [windrowref05_Fills.j0, e]
          refine itn (by simp) (itn (by omega) (bnd (hK2 q (by omega)) (bnd (hK3 q (by omega)) ?_)))
          rw [hl, w64 (by omega) (by omega)]
      · refine ⟨(0, 1), by rw [if_neg h1, if_neg h2, if_neg hb], go true _ (decide_eq_true hb).symm ?_⟩
        refine (Eo.of (g := fun _ => some ((0 : Int), (1 : Int))) fun _ => rfl).round fun k => ?_
        rw [windrowref05_Fills.j0]; exact itp rfl rfl

theorem SizesChooses : windrowlaw05_SizesChooses.Pure := by
  intro a b _ _
  obtain ⟨r1, e1, K1, h1⟩ := classes_eo a
  obtain ⟨r2, e2, K2, h2⟩ := pagess_eo a
  obtain ⟨r3, e3, K3, h3⟩ := roundss_eo a
  obtain ⟨r4, e4, K4, h4⟩ := fillss_eo a b
  refine ⟨K1 + K2 + K3 + K4, ?_⟩
  unfold windrowlaw05_SizesChooses.f
  exact bnd e1 (bnd (h1 _ (by omega)) (bnd e2 (bnd (h2 _ (by omega)) (bnd e3 (bnd (h3 _ (by omega)) (bnd e4 (bnd (h4 _ (by omega)) (bnd sized_eq (itp rfl (itp rfl (itp rfl (itp rfl (itp rfl (itp rfl (itp rfl (itp rfl (by simp)))))))))))))))))
end Go.Proofs.YtjakjaohgndebaaDoor.Pure
