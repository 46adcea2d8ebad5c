/- The law of packs, in plain numbers. -/
import Derived.Test.YtahmhhbpdgopjaaDoorWpE
namespace Go.Proofs.YtahmhhbpdgopjaaDoor.Pure
open Go.RowKit Go.Proofs.YtahmhhbpdgopjaaDoor.PAll Go.Proofs.YtahmhhbpdgopjaaDoorW.PrintWords Go.Proofs.YtahmhhbpdgopjaaDoorW.PrintLast Go.Proofs.YtahmhhbpdgopjaaDoorW.PrintMore
open Go.Proofs.YtahmhhbpdgopjaaDoor.Wp Go.Proofs.YtahmhhbpdgopjaaDoor.Eo Go.Proofs.YtahmhhbpdgopjaaDoor.Wd Go.Proofs.YtahmhhbpdgopjaaDoor.Bt
set_option linter.unusedVariables false

theorem WordPacks : windrowlaw01_WordPacks.Pure := by
  intro vs ws w hv1 hv2 hv hw1 hw2 hws hw
  replace hw := wfW hw
  have hvW : ∀ x ∈ vs, W x := fun x hx => wfW (hv x hx)
  obtain ⟨K4, h4⟩ := worded_eo
  have out : ∃ k, windrowlaw01_WordPacks.j0 k vs ws w true = some true := by
    refine ⟨K4 + 1, ?_⟩
    rw [windrowlaw01_WordPacks.j0]
    exact itp rfl (bnd (h4 K4 (by omega)) rfl)
  unfold windrowlaw01_WordPacks.f
  by_cases h1 : vs.length > 200
  · obtain ⟨k, hk⟩ := out
    exact ⟨k, itp (by omega) hk⟩
  · by_cases h2 : ws.length > 200
    · obtain ⟨k, hk⟩ := out
      refine ⟨k, itn (by omega) ?_⟩
      rw [decide_eq_true (p := (ws.length : Int) > 200) (by omega)]; exact hk
    · obtain ⟨r, ⟨K1, p1⟩, ⟨K2, p2⟩⟩ := packs_eo (ws := ws) hvW (by omega)
      obtain ⟨u, ⟨K3, u1⟩, ⟨K5, u2⟩, hu0⟩ := unpacks_eo (ws := ws) hw (by omega)
      have hu : u.1.length < 9223372036854775807 := by omega
      obtain ⟨K6, h6⟩ := words_eo u.1 hu
      refine ⟨K1 + K2 + K3 + K4 + K5 + K6 + 1, itn (by omega) ?_⟩
      rw [decide_eq_false (p := (ws.length : Int) > 200) (by omega), windrowlaw01_WordPacks.j0]
      exact itn (by simp) (bnd (p1 _ (by omega)) (bnd (p2 _ (by omega)) (bnd (u1 _ (by omega)) (bnd (u2 _ (by omega)) (bnd (h4 _ (by omega)) (itp rfl (itp rfl (itp rfl (bnd (h6 _ (by omega)) (itp rfl (by simp)))))))))))
end Go.Proofs.YtahmhhbpdgopjaaDoor.Pure
