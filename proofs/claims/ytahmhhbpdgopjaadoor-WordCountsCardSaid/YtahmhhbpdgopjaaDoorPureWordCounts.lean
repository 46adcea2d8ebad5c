/- The law of counts, in plain numbers. -/
import Derived.Test.YtahmhhbpdgopjaaDoorWpD
namespace Go.Proofs.YtahmhhbpdgopjaaDoor.Pure
open Go.RowKit Go.Proofs.YtahmhhbpdgopjaaDoor.PAll Go.Proofs.YtahmhhbpdgopjaaDoor.Wp Go.Proofs.YtahmhhbpdgopjaaDoor.Eo Go.Proofs.YtahmhhbpdgopjaaDoor.Wd Go.Proofs.YtahmhhbpdgopjaaDoor.Bt
set_option linter.unusedVariables false

theorem WordCounts : windrowlaw01_WordCounts.Pure := by
  intro w a hw ha
  replace hw := wfW hw
  obtain ⟨K1, h1⟩ := places_eo hw
  obtain ⟨K2, h2⟩ := rrank_eo hw a
  obtain ⟨K3, h3⟩ := rmask_eo a
  obtain ⟨K4, h4⟩ := worded_eo
  have hl : (pl w 64).length = ones w := pl_len w 64
  have h64 : ones w ≤ 64 := cnt_le _ _
  have key : ∀ (q : Nat) (lo hi : Int), K1 + K2 + K3 + K4 + 1 ≤ q → tz w = lo → High w hi → windrowlaw01_WordCounts.j0 (q + 1) w a (pl w 64) lo hi = some true := by
    intro q lo hi hq elo ehi
    obtain ⟨m, rfl⟩ : ∃ m, q = m + 1 := ⟨q - 1, by omega⟩
    obtain ⟨h, hh, e⟩ := highest_eo hw m
    have ehh : h = hi := by
      rcases hh with ⟨z, rfl⟩ | ⟨p, _, rfl, b, c⟩
      · rcases ehi with ⟨_, rfl⟩ | ⟨p, _, rfl, b, c⟩
        · rfl
        · rw [z, tb_zero] at b; cases b
      · rcases ehi with ⟨z, _⟩ | ⟨q, _, rfl, d, f⟩
        · rw [z, tb_zero] at b; cases b
        · have n1 : ¬ p < q := fun z => by rw [c q z] at d; cases d
          have n2 : ¬ q < p := fun z => by rw [f p z] at b; cases b
          omega
    subst ehh
    rw [windrowlaw01_WordCounts.j0]
    refine bnd (h4 _ (by omega)) (itp rfl (bnd (ones_eq hw) (itp (by omega) (bnd (lowest_eq hw) (itp elo (bnd e (itp rfl (bnd (rank_eq hw a) (bnd (h2 _ (by omega)) (itp rfl (bnd (mask_all a) (bnd (h3 _ (by omega)) (by simp)))))))))))))
  refine ⟨K1 + K2 + K3 + K4 + 2, ?_⟩
  unfold windrowlaw01_WordCounts.f
  refine bnd (h1 _ (by omega)) ?_
  by_cases h0 : ones w = 0
  · have hz : w = 0 := eq_zero_of hw fun i hi => by
      cases ht : tb w i with
      | false => rfl
      | true =>
        have h5 := cnt_mono (tb w) (show i + 1 ≤ 64 by omega)
        rw [cnt, ht] at h5; simp at h5
        unfold ones at h0; omega
    refine itn (by omega) (key _ 64 (-1) (by omega) ?_ (.inl ⟨hz, rfl⟩))
    rw [hz]; rfl
  · refine itp (by omega) (itp (by omega) ?_)
    rw [w64 (x := ((pl w 64).length : Int) - 1) (by omega) (by omega)]
    refine itp (by omega) (itp (by omega) ?_)
    obtain ⟨p, hp, pt, pc, pr⟩ := pl_rd (w := w) (m := 0) (by omega)
    obtain ⟨q, hq, qt, qc, qr⟩ := pl_rd (w := w) (m := ones w - 1) (by omega)
    rw [show ((pl w 64).length : Int) - 1 = ((ones w - 1 : Nat) : Int) by omega, qr]
    rw [show ((0 : Nat) : Int) = 0 by rfl] at pr
    rw [pr]
    refine key _ p q (by omega) (tz_low hw hp ⟨pt, fun i hi => ?_⟩) (.inr ⟨q, hq, rfl, qt, fun i hi => ?_⟩)
    · cases ht : tb w i with
      | false => rfl
      | true =>
        have h5 := cnt_mono (tb w) (show i + 1 ≤ p by omega)
        rw [cnt, ht] at h5; simp at h5; omega
    · cases ht : tb w i with
      | false => rfl
      | true =>
        by_cases hi64 : i < 64
        · have h5 := cnt_mono (tb w) (show q + 1 ≤ i by omega)
          have h6 := cnt_mono (tb w) (show i + 1 ≤ 64 by omega)
          rw [cnt, qt] at h5; rw [cnt, ht] at h6; simp at h5 h6
          unfold ones at *; omega
        · rw [tb_high hw (by omega)] at ht; cases ht
end Go.Proofs.YtahmhhbpdgopjaaDoor.Pure
