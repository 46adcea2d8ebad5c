/- The law that ranks undo selections, in plain numbers. -/
import Derived.Test.YtahmhhbpdgopjaaDoorWpD
namespace Go.Proofs.YtahmhhbpdgopjaaDoor.Pure
open Go.RowKit Go.Proofs.YtahmhhbpdgopjaaDoor.PAll Go.Proofs.YtahmhhbpdgopjaaDoor.Wp Go.Proofs.YtahmhhbpdgopjaaDoor.Eo Go.Proofs.YtahmhhbpdgopjaaDoor.Wd Go.Proofs.YtahmhhbpdgopjaaDoor.Bt
set_option linter.unusedVariables false

theorem WordUndoes : windrowlaw01_WordUndoes.Pure := by
  intro w m hw hm
  replace hw := wfW hw
  obtain ⟨r, hr, K1, h1⟩ := select_eo hw m
  obtain ⟨K2, h2⟩ := worded_eo
  refine ⟨K1 + K2 + 1, ?_⟩
  obtain ⟨q, hq⟩ : ∃ q, K1 + K2 + 1 = q + 1 := ⟨K1 + K2, rfl⟩
  unfold windrowlaw01_WordUndoes.f
  have g1 := h1 (q + 1) (by omega)
  have g2 := h2 (q + 1) (by omega)
  rw [hq]
  refine bnd g1 (bnd g2 (itp rfl ?_))
  rcases hr with ⟨h, rfl⟩ | ⟨p, h0, hp, ht, hc, rfl⟩
  · refine itn (by omega) ?_
    rw [decide_eq_false (p := (-1 : Int) > 63) (by omega), windrowlaw01_WordUndoes.j0]
    refine itn (by simp) (itp (by omega) ?_)
    by_cases hm0 : m < 0
    · exact itp hm0 rfl
    · refine itn hm0 (bnd (ones_eq hw) ?_)
      rw [decide_eq_true (p := m ≥ (ones w : Int)) (by omega)]
  · have hlt : m < (ones w : Int) := by
      have h2 := cnt_mono (tb w) (show p + 1 ≤ 64 by omega)
      rw [cnt, ht] at h2; simp at h2
      unfold ones; omega
    refine itn (by omega) ?_
    rw [decide_eq_false (p := (p : Int) > 63) (by omega), windrowlaw01_WordUndoes.j0]
    refine itn (by simp) (itn (by omega) (bnd (get_eq hw (a := p) (n := 1) (by omega) (by omega)) (itp rfl (itp ?_ (bnd (rank_eq hw p) (itp ?_ (bnd (ones_eq hw) ?_)))))))
    · exact (bi_one hw.1 p).mpr ht
    · rw [show upto (p : Int) = p by unfold upto; omega]; exact hc
    · rw [decide_eq_true hlt]
end Go.Proofs.YtahmhhbpdgopjaaDoor.Pure
